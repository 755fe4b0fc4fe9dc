/-
frame, in plain Lean: the frames of bytes (cut), and what feeding them piece by piece gives.
-/
import Derived.Test.YtmemmhalcieelaaFm
namespace Go.Proofs.Ytmemmhalcieelaa.F
open Go.RowKit Go.Proofs.YtmemmhalcieelaaW.PrintWords

theorem rdv_app : ∀ (l : List Int) (i : Nat) (acc : Int) (q : List Int), (M.rdv i acc l).2.2 ≠ 5 → M.rdv i acc (l ++ q) = M.rdv i acc l
  | [], i, acc, q, h => absurd rfl h
  | c :: l, i, acc, q, h => by
    rw [List.cons_append]
    simp only [M.rdv] at h ⊢
    repeat' split
    all_goals first | rfl | skip
    all_goals
      refine rdv_app l _ _ q ?_
      simp_all

theorem V_app {l : List Int} (q : List Int) (h : (M.V l).2.2 ≠ 5) : M.V (l ++ q) = M.V l := rdv_app l 0 0 q h

theorem head_e (l : List Int) : (head l).2.2 = (M.V l).2.2 := by
  unfold head
  split
  · rename_i h; exact h.1.symm
  · rfl

theorem head_app {l : List Int} (q : List Int) (h : (head l).2.2 ≠ 5) : head (l ++ q) = head l := by
  rw [head_e] at h
  unfold head
  rw [V_app q h]

/-- The frames that bytes begin with, how many bytes they are, and why no more come. -/
def cut (lim : Int) : Nat → List Int → List (List Int) × Int × Int
  | 0, _ => ([], 0, 0)
  | k + 1, b =>
    if b = [] then ([], 0, 0)
    else if (head b).2.2 ≠ 0 then ([], 0, (head b).2.2)
    else if lim < (head b).1 then ([], 0, 3)
    else if (b.length : Int) < (head b).2.1 + (head b).1 then ([], 0, 5)
    else ((b.take ((head b).2.1 + (head b).1).toNat).drop (head b).2.1.toNat :: (cut lim k (b.drop ((head b).2.1 + (head b).1).toNat)).1, (head b).2.1 + (head b).1 + (cut lim k (b.drop ((head b).2.1 + (head b).1).toNat)).2.1, (cut lim k (b.drop ((head b).2.1 + (head b).1).toNat)).2.2)

theorem cut_nil (lim : Int) (k : Nat) : cut lim k [] = ([], 0, 0) := by
  cases k <;> simp [cut]

/-- More rounds than bytes: as many as one likes. -/
theorem cut_fuel (lim : Int) : ∀ (k m : Nat) (b : List Int), M.Bytes b → b.length ≤ k → b.length ≤ m → cut lim k b = cut lim m b
  | 0, m, b, hb, hk, hm => by
    have : b = [] := List.length_eq_zero_iff.1 (by omega)
    subst this
    rw [cut_nil, cut_nil]
  | k + 1, 0, b, hb, hk, hm => by
    have : b = [] := List.length_eq_zero_iff.1 (by omega)
    subst this
    rw [cut_nil, cut_nil]
  | k + 1, m + 1, b, hb, hk, hm => by
    simp only [cut]
    by_cases h0 : b = []
    · rw [if_pos h0, if_pos h0]
    · rw [if_neg h0, if_neg h0]
      by_cases h1 : (head b).2.2 ≠ 0
      · rw [if_pos h1, if_pos h1]
      · rw [if_neg h1, if_neg h1]
        have hok := head_ok hb (Decidable.not_not.1 h1)
        have hl : (b.drop ((head b).2.1 + (head b).1).toNat).length = b.length - ((head b).2.1 + (head b).1).toNat := List.length_drop
        have hpos : 0 < b.length := List.length_pos_iff.2 h0
        rw [cut_fuel lim k m _ (hb.drop _) (by omega) (by omega)]

/-- All of it: of as many rounds as bytes. -/
def all (lim : Int) (b : List Int) : List (List Int) × Int × Int := cut lim b.length b

theorem all_step (lim : Int) (b : List Int) (hb : M.Bytes b) : all lim b =
    if b = [] then ([], 0, 0)
    else if (head b).2.2 ≠ 0 then ([], 0, (head b).2.2)
    else if lim < (head b).1 then ([], 0, 3)
    else if (b.length : Int) < (head b).2.1 + (head b).1 then ([], 0, 5)
    else ((b.take ((head b).2.1 + (head b).1).toNat).drop (head b).2.1.toNat :: (all lim (b.drop ((head b).2.1 + (head b).1).toNat)).1, (head b).2.1 + (head b).1 + (all lim (b.drop ((head b).2.1 + (head b).1).toNat)).2.1, (all lim (b.drop ((head b).2.1 + (head b).1).toNat)).2.2) := by
  by_cases h0 : b = []
  · subst h0
    rfl
  · have hpos : 0 < b.length := List.length_pos_iff.2 h0
    obtain ⟨k, hk⟩ : ∃ k, b.length = k + 1 := ⟨b.length - 1, by omega⟩
    unfold all
    rw [hk]
    simp only [cut]
    rw [if_neg h0, if_neg h0]
    by_cases h1 : (head b).2.2 ≠ 0
    · rw [if_pos h1, if_pos h1]
    · rw [if_neg h1, if_neg h1]
      have hok := head_ok hb (Decidable.not_not.1 h1)
      have hl : (b.drop ((head b).2.1 + (head b).1).toNat).length = b.length - ((head b).2.1 + (head b).1).toNat := List.length_drop
      rw [cut_fuel lim k (b.drop ((head b).2.1 + (head b).1).toNat).length _ (hb.drop _) (by omega) (Nat.le_refl _), hk]

theorem V_err : ∀ (l : List Int) (i : Nat) (acc : Int), (M.rdv i acc l).2.2 = 0 ∨ (M.rdv i acc l).2.2 = 4 ∨ (M.rdv i acc l).2.2 = 5
  | [], i, acc => by simp [M.rdv]
  | c :: l, i, acc => by
    simp only [M.rdv]
    repeat' split
    all_goals first | (simp; done) | exact V_err l _ _

theorem head_err (b : List Int) : (head b).2.2 = 0 ∨ (head b).2.2 = 4 ∨ (head b).2.2 = 5 := by
  rw [head_e]
  exact V_err b 0 0

/-- By induction on the bytes' number. -/
theorem by_len {p : List Int → Prop} (h : ∀ b, (∀ c : List Int, c.length < b.length → p c) → p b) (b : List Int) : p b :=
  have : ∀ n (b : List Int), b.length = n → p b := fun n => by
    induction n using Nat.strongRecOn with
    | _ n ih => exact fun b hb => h b (fun c hc => ih c.length (by omega) c rfl)
  this b.length b rfl

/-- What cut tells. -/
theorem all_facts (lim : Int) (b : List Int) (hb : M.Bytes b) : 0 ≤ (all lim b).2.1 ∧ (all lim b).2.1 ≤ b.length ∧ ((all lim b).2.2 = 0 ∨ (all lim b).2.2 = 3 ∨ (all lim b).2.2 = 4 ∨ (all lim b).2.2 = 5) ∧ ((all lim b).2.2 = 0 → (all lim b).2.1 = b.length) ∧
    ((all lim b).1.length : Int) ≤ (all lim b).2.1 ∧ (all lim b).1.length + (b.drop (all lim b).2.1.toNat).length ≤ b.length := by
  revert hb
  refine by_len (p := fun b => M.Bytes b → (0 ≤ (all lim b).2.1 ∧ (all lim b).2.1 ≤ b.length ∧ ((all lim b).2.2 = 0 ∨ (all lim b).2.2 = 3 ∨ (all lim b).2.2 = 4 ∨ (all lim b).2.2 = 5) ∧ ((all lim b).2.2 = 0 → (all lim b).2.1 = b.length) ∧
    ((all lim b).1.length : Int) ≤ (all lim b).2.1 ∧ (all lim b).1.length + (b.drop (all lim b).2.1.toNat).length ≤ b.length)) ?_ b
  intro b ih hb
  rw [all_step lim b hb]
  by_cases h0 : b = []
  · rw [if_pos h0]
    subst h0
    simp
  · rw [if_neg h0]
    have hpos : 0 < b.length := List.length_pos_iff.2 h0
    by_cases h1 : (head b).2.2 ≠ 0
    · rw [if_pos h1]
      have := head_err b
      refine ⟨by simp, by simp, ?_, fun h => absurd h h1, by simp, by simp⟩
      simp only
      omega
    · rw [if_neg h1]
      have h1 := Decidable.not_not.1 h1
      have hok := head_ok hb h1
      by_cases h2 : lim < (head b).1
      · rw [if_pos h2]
        simp
      · rw [if_neg h2]
        by_cases h3 : (b.length : Int) < (head b).2.1 + (head b).1
        · rw [if_pos h3]
          simp
        · rw [if_neg h3]
          have hl : (b.drop ((head b).2.1 + (head b).1).toNat).length = b.length - ((head b).2.1 + (head b).1).toNat := List.length_drop
          obtain ⟨f1, f2, f3, f4, f5, f6⟩ := ih _ (by omega) (hb.drop ((head b).2.1 + (head b).1).toNat)
          refine ⟨by simp only; omega, by simp only; omega, f3, fun h => ?_, by simp only [List.length_cons]; omega, ?_⟩
          · have := f4 h
            simp only
            omega
          · simp only [List.length_cons, List.length_drop] at f6 ⊢
            omega

/-- What an assembler does with bytes, by cut. -/
theorem run_all (lim : Int) : ∀ (k : Nat) (b : List Int), M.Bytes b → b.length ≤ k →
    run lim k b = ((all lim b).1, if (all lim b).2.2 = 0 ∨ (all lim b).2.2 = 5 then b.drop (all lim b).2.1.toNat else [], if (all lim b).2.2 = 0 ∨ (all lim b).2.2 = 5 then 0 else (all lim b).2.2)
  | 0, b, hb, hk => by
    have : b = [] := List.length_eq_zero_iff.1 (by omega)
    subst this
    simp [run, all, cut]
  | k + 1, b, hb, hk => by
    rw [all_step lim b hb]
    simp only [run]
    by_cases h0 : b = []
    · rw [if_pos h0, if_pos h0]
      subst h0
      simp
    · rw [if_neg h0, if_neg h0]
      by_cases h5 : (head b).2.2 = 5
      · rw [if_pos h5, if_pos (by omega), h5]
        simp
      · rw [if_neg h5]
        by_cases h1 : (head b).2.2 ≠ 0
        · rw [if_pos h1, if_pos h1]
          have : ¬ ((head b).2.2 = 0 ∨ (head b).2.2 = 5) := by omega
          simp only [if_neg this]
        · rw [if_neg h1, if_neg h1]
          by_cases h2 : lim < (head b).1
          · rw [if_pos h2, if_pos h2]
            simp
          · rw [if_neg h2, if_neg h2]
            have hok := head_ok hb (Decidable.not_not.1 h1)
            by_cases h3 : (b.length : Int) < (head b).2.1 + (head b).1
            · rw [if_pos h3, if_pos h3]
              simp
            · rw [if_neg h3, if_neg h3]
              have hl : (b.drop ((head b).2.1 + (head b).1).toNat).length = b.length - ((head b).2.1 + (head b).1).toNat := List.length_drop
              rw [run_all lim k _ (hb.drop _) (by omega)]
              obtain ⟨f1, f2, _⟩ := all_facts lim _ (hb.drop ((head b).2.1 + (head b).1).toNat)
              simp only [List.drop_drop]
              rw [show ((head b).2.1 + (head b).1).toNat + (all lim (b.drop ((head b).2.1 + (head b).1).toNat)).2.1.toNat = ((head b).2.1 + (head b).1 + (all lim (b.drop ((head b).2.1 + (head b).1).toNat)).2.1).toNat by omega]

/-- Bytes that come behind: what was whole is whole; the rest is cut with what comes. -/
theorem all_app (lim : Int) (b : List Int) (hb : M.Bytes b) : ∀ q : List Int, M.Bytes q → ((all lim b).2.2 = 0 ∨ (all lim b).2.2 = 5) →
    all lim (b ++ q) = ((all lim b).1 ++ (all lim (b.drop (all lim b).2.1.toNat ++ q)).1, (all lim b).2.1 + (all lim (b.drop (all lim b).2.1.toNat ++ q)).2.1, (all lim (b.drop (all lim b).2.1.toNat ++ q)).2.2) := by
  revert hb
  refine by_len (p := fun b => M.Bytes b → (∀ q : List Int, M.Bytes q → ((all lim b).2.2 = 0 ∨ (all lim b).2.2 = 5) →
    all lim (b ++ q) = ((all lim b).1 ++ (all lim (b.drop (all lim b).2.1.toNat ++ q)).1, (all lim b).2.1 + (all lim (b.drop (all lim b).2.1.toNat ++ q)).2.1, (all lim (b.drop (all lim b).2.1.toNat ++ q)).2.2))) ?_ b
  intro b ih hb q hq
  by_cases hat : (all lim b).2.1 = 0 ∧ (all lim b).1 = []
  · intro _
    rw [hat.1, hat.2]
    simp
  · rw [all_step lim b hb] at hat ⊢
    by_cases h0 : b = []
    · rw [if_pos h0] at hat
      exact absurd ⟨rfl, rfl⟩ hat
    · rw [if_neg h0] at hat ⊢
      by_cases h1 : (head b).2.2 ≠ 0
      · rw [if_pos h1] at hat
        exact absurd ⟨rfl, rfl⟩ hat
      · rw [if_neg h1] at hat ⊢
        by_cases h2 : lim < (head b).1
        · rw [if_pos h2] at hat
          exact absurd ⟨rfl, rfl⟩ hat
        · rw [if_neg h2] at hat ⊢
          by_cases h3 : (b.length : Int) < (head b).2.1 + (head b).1
          · rw [if_pos h3] at hat
            exact absurd ⟨rfl, rfl⟩ hat
          · rw [if_neg h3]
            clear hat
            intro hno
            have h1' := Decidable.not_not.1 h1
            have hok := head_ok hb h1'
            have hl : (b.drop ((head b).2.1 + (head b).1).toNat).length = b.length - ((head b).2.1 + (head b).1).toNat := List.length_drop
            have hh : head (b ++ q) = head b := head_app q (by omega)
            rw [all_step lim (b ++ q) (hb.append hq), if_neg (by simp [h0]), hh, if_neg h1, if_neg h2, if_neg (by rw [List.length_append]; omega)]
            obtain ⟨f1, f2, _⟩ := all_facts lim _ (hb.drop ((head b).2.1 + (head b).1).toNat)
            have hd : (b ++ q).drop ((head b).2.1 + (head b).1).toNat = b.drop ((head b).2.1 + (head b).1).toNat ++ q := List.drop_append_of_le_length (by omega)
            have ht : (b ++ q).take ((head b).2.1 + (head b).1).toNat = b.take ((head b).2.1 + (head b).1).toNat := List.take_append_of_le_length (by omega)
            rw [hd, ht, ih _ (by omega) (hb.drop _) q hq hno]
            simp only [List.drop_drop, List.cons_append]
            rw [show ((head b).2.1 + (head b).1).toNat + (all lim (b.drop ((head b).2.1 + (head b).1).toNat)).2.1.toNat = ((head b).2.1 + (head b).1 + (all lim (b.drop ((head b).2.1 + (head b).1).toNat)).2.1).toNat by omega]
            simp only [Int.add_assoc]

/-- What is broken stays broken. -/
theorem all_lost (lim : Int) (b : List Int) (hb : M.Bytes b) : ∀ q : List Int, M.Bytes q → (all lim b).2.2 ≠ 0 → (all lim b).2.2 ≠ 5 → (all lim (b ++ q)).2.2 = (all lim b).2.2 := by
  revert hb
  refine by_len (p := fun b => M.Bytes b → (∀ q : List Int, M.Bytes q → (all lim b).2.2 ≠ 0 → (all lim b).2.2 ≠ 5 → (all lim (b ++ q)).2.2 = (all lim b).2.2)) ?_ b
  intro b ih hb q hq
  rw [all_step lim b hb]
  by_cases h0 : b = []
  · rw [if_pos h0]
    exact fun h => absurd rfl h
  · rw [if_neg h0]
    by_cases h1 : (head b).2.2 ≠ 0
    · rw [if_pos h1]
      intro _ h5
      have hh : head (b ++ q) = head b := head_app q h5
      rw [all_step lim (b ++ q) (hb.append hq), if_neg (by simp [h0]), hh, if_pos h1]
    · rw [if_neg h1]
      have h1' := Decidable.not_not.1 h1
      have hok := head_ok hb h1'
      have hh : head (b ++ q) = head b := head_app q (by omega)
      by_cases h2 : lim < (head b).1
      · rw [if_pos h2]
        intro _ _
        rw [all_step lim (b ++ q) (hb.append hq), if_neg (by simp [h0]), hh, if_neg h1, if_pos h2]
      · rw [if_neg h2]
        by_cases h3 : (b.length : Int) < (head b).2.1 + (head b).1
        · rw [if_pos h3]
          exact fun _ h => absurd rfl h
        · rw [if_neg h3]
          intro hn0 hn5
          have hl : (b.drop ((head b).2.1 + (head b).1).toNat).length = b.length - ((head b).2.1 + (head b).1).toNat := List.length_drop
          have hd : (b ++ q).drop ((head b).2.1 + (head b).1).toNat = b.drop ((head b).2.1 + (head b).1).toNat ++ q := List.drop_append_of_le_length (by omega)
          rw [all_step lim (b ++ q) (hb.append hq), if_neg (by simp [h0]), hh, if_neg h1, if_neg h2, if_neg (by rw [List.length_append]; omega), hd]
          exact ih _ (by omega) (hb.drop _) q hq hn0 hn5

end Go.Proofs.Ytmemmhalcieelaa.F
