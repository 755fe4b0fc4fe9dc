/-
flangeref03.Cut and Need, frame.Wrap and Split: what they come to.
-/
import Derived.Test.YtmemmhalcieelaaFr
import Derived.Test.YtmemmhalcieelaaFp
namespace Go.Proofs.Ytmemmhalcieelaa.F
open Go.RowKit Go.Proofs.YtmemmhalcieelaaW.PrintWords Go.Proofs.YtmemmhalcieelaaW.PrintLast Go.Proofs.YtmemmhalcieelaaW.PrintMore Go.Proofs.Ytmemmhalcieelaa.V

theorem C_agree {w W' : World} {A : Option Addr} {n : Nat} {l : List Int} (h : Kd.C (Kd.int .u8) w A n l) (hm : ∀ k, k < w.heap.size → W'.heap[k]? = w.heap[k]?) : Kd.C (Kd.int .u8) W' A n l := by
  have hs : w.heap.size ≤ W'.heap.size := by
    rcases Nat.eq_zero_or_pos w.heap.size with h0 | h0
    · omega
    · have := heap_lt (hm (w.heap.size - 1) (by omega)) (by omega)
      omega
  have hb : Below w.heap.size w { W' with os := w.os, tape := w.tape, output := w.output } := ⟨rfl, rfl, rfl, hs, hm⟩
  have h2 := Kd.C_below h hb
  exact h2

theorem head_le {b : List Int} (hb : M.Bytes b) (h : (head b).2.2 = 0) (h4 : (head b).1 ≤ 4096) : (M.V b).1 = (head b).1 ∧ (M.V b).2.1 = (head b).2.1 ∧ (M.V b).2.2 = 0 ∧ (head b).2.1 = ((M.E (head b).1).length : Int) ∧ ∃ rest, b = M.E (head b).1 ++ rest := by
  obtain ⟨p, hp⟩ : ∃ p : Int × Int × Int, M.V b = p := ⟨_, rfl⟩
  obtain ⟨n, j, e⟩ := p
  have he := head_e b
  rw [hp] at he
  simp only at he
  have he0 : e = 0 := by omega
  subst he0
  obtain ⟨rest, hr, hj, h0, h1⟩ := M.V_inv hb hp
  unfold head at h4 ⊢
  rw [hp] at h4 ⊢
  simp only at h4 ⊢
  split at h4
  · simp at h4
  · rename_i hc
    have hn : ¬ 4096 < n := fun h => hc ⟨trivial, h⟩
    have hw : wrap64 n = n := by unfold wrap64; omega
    simp only [hw] at h4
    rw [if_neg hc]
    simp only [hw]
    exact ⟨trivial, trivial, trivial, hj, rest, hr⟩

theorem head_big {b : List Int} {lim : Int} (hb : M.Bytes b) (hlim : 0 ≤ lim ∧ lim ≤ 4096) (h : (head b).2.2 = 0) : (lim < (head b).1 ↔ lim < (M.V b).1) := by
  obtain ⟨p, hp⟩ : ∃ p : Int × Int × Int, M.V b = p := ⟨_, rfl⟩
  obtain ⟨n, j, e⟩ := p
  have he := head_e b
  rw [hp] at he
  simp only at he
  have he0 : e = 0 := by omega
  subst he0
  obtain ⟨rest, hr, hj, h0, h1⟩ := M.V_inv hb hp
  unfold head
  rw [hp]
  simp only
  split
  · rename_i hc
    simp only
    omega
  · rename_i hc
    have hn : ¬ 4096 < n := fun h => hc ⟨trivial, h⟩
    have hw : wrap64 n = n := by unfold wrap64; omega
    simp only [hw]

theorem cut_l0 (lim : Int) (hlim : 0 ≤ lim ∧ lim ≤ 4096) (b : List Int) (hb : M.Bytes b) (hl : b.length ≤ 1000000) : ∀ (k at_ : Nat) (x7 : List (List Int)), at_ ≤ b.length → b.length - at_ < k → x7.length ≤ at_ →
    flangeref03_Cut.l0 k b lim x7 (at_ : Int) = some (x7 ++ (all lim (b.drop at_)).1, at_ + (all lim (b.drop at_)).2.1, (all lim (b.drop at_)).2.2)
  | 0, _, _, _, h, _ => by omega
  | k + 1, at_, x7, ha, hk, hx => by
    simp only [flangeref03_Cut.l0]
    rw [all_step lim _ (hb.drop at_)]
    by_cases h0 : (at_ : Int) < b.length
    · have hne : b.drop at_ ≠ [] := by
        intro h
        have := congrArg List.length h
        rw [List.length_drop, List.length_nil] at this
        omega
      rw [if_pos h0, if_pos (by omega), if_pos (by omega), if_neg hne, Int.toNat_natCast, flangeref01_Read.f_ok k (hb.drop at_) (by rw [List.length_drop]; omega), Option.bind_some]
      have hB := hb.drop at_
      have hdl : (b.drop at_).length = b.length - at_ := List.length_drop
      obtain ⟨B, hBe⟩ : ∃ B, b.drop at_ = B := ⟨_, rfl⟩
      rw [hBe] at hB hdl ⊢
      rw [← head_e]
      by_cases h1 : (head B).2.2 = 0
      · rw [if_pos h1, if_neg (show ¬ ((head B).2.2 ≠ 0) from fun h => h h1)]
        have hu : IntKind.u64.wrap lim = lim := by rw [IntKind.wrap_u64]; omega
        rw [hu]
        have hbig := head_big hB hlim h1
        by_cases h2 : lim < (head B).1
        · rw [if_pos h2, if_pos (by have := hbig.1 h2; omega)]
          simp
        · rw [if_neg h2, if_neg (by have := fun h => h2 (hbig.2 h); omega)]
          obtain ⟨e1, e2, _, e4, _⟩ := head_le hB h1 (by omega)
          have hok := head_ok hB h1
          rw [e1, e2]
          have w1 : wrap64 ((at_ : Int) + (head B).2.1) = at_ + (head B).2.1 := by unfold wrap64; omega
          have w2 : wrap64 (head B).1 = (head B).1 := by unfold wrap64; omega
          have w3 : wrap64 ((at_ : Int) + (head B).2.1 + (head B).1) = at_ + (head B).2.1 + (head B).1 := by unfold wrap64; omega
          rw [w1, w2, w3]
          by_cases h3 : (B.length : Int) < (head B).2.1 + (head B).1
          · rw [if_pos h3, if_pos (by omega)]
            simp
          · rw [if_neg h3, if_neg (by omega), if_pos (by omega), if_pos (by omega), if_pos (by omega), if_pos (by omega)]
            have hj : (at_ : Int) + (head B).2.1 + (head B).1 = ((at_ + ((head B).2.1 + (head B).1).toNat : Nat) : Int) := by omega
            rw [hj, cut_l0 lim hlim b hb hl k _ _ (by omega) (by omega) (by simp; omega)]
            have hd : b.drop (at_ + ((head B).2.1 + (head B).1).toNat) = B.drop ((head B).2.1 + (head B).1).toNat := by rw [← hBe, List.drop_drop]
            have ht : (b.take ((at_ + ((head B).2.1 + (head B).1).toNat : Nat) : Int).toNat).drop ((at_ : Int) + (head B).2.1).toNat = (B.take ((head B).2.1 + (head B).1).toNat).drop (head B).2.1.toNat := by
              rw [Int.toNat_natCast, ← hBe, List.take_drop, List.drop_drop, hBe]
              congr 1
              omega
            rw [hd, ht]
            simp only [List.append_assoc, List.singleton_append]
            congr 2
            refine Prod.ext ?_ rfl
            simp only
            omega
      · rw [if_neg h1, if_pos h1]
        simp
    · have h1 : at_ = b.length := by omega
      rw [if_neg h0, if_pos (by rw [h1]; exact List.drop_length)]
      simp

theorem cut_c (A : Option Addr) (c : Nat) (b : List Int) (lim : Int) (w : World) (hC : Kd.C (Kd.int .u8) w A b.length b) (hc : b.length ≤ c) (hb : M.Bytes b) (hl : b.length ≤ 1000000) (hlim : 0 ≤ lim ∧ lim ≤ 4096) :
    Calls Try.prog 36 #[.slice A b.length c, .int .i64 lim] w fun e w' => ∃ A' c', e = .returned (.tuple #[.slice A' (all lim b).1.length c', .int .i64 (all lim b).2.1, .int .i64 (all lim b).2.2]) ∧ Kd.C (Kd.slice 5 (Kd.int .u8)) w' A' (all lim b).1.length (all lim b).1 ∧ Below w.heap.size w w' := by
  have h := cut_l0 lim hlim b hb hl (b.length + 1) 0 [] (Nat.zero_le _) (by omega) (Nat.le_refl _)
  simp only [List.drop_zero, List.nil_append, Int.ofNat_zero, Int.zero_add] at h
  refine (flangeref03_Cut.calls (b.length + 1) (fun _ => True) A c b lim (all lim b).1 (all lim b).2.1 (all lim b).2.2 w (Kd.V_mk hc (fun W' hW => C_agree hC (fun k hk => hW k trivial hk))) (by unfold flangeref03_Cut.f; exact h)).mono ?_
  rintro e w' ⟨v, rfl, hN, hB⟩
  obtain ⟨A', c', rfl, _, hC'⟩ := Kd.N_reads hN
  exact ⟨A', c', rfl, hC', hB⟩

theorem refneed_c (A : Option Addr) (c : Nat) (b : List Int) (at_ : Int) (w : World) (hC : Kd.C (Kd.int .u8) w A b.length b) (hc : b.length ≤ c) (hb : M.Bytes b) (hl : b.length ≤ 1000000) (h0 : 0 ≤ at_) (h1 : at_ ≤ b.length) :
    Calls Try.prog 50 #[.slice A b.length c, .int .i64 at_] w fun e w' => e = .returned (.int .i64 (if b.drop at_.toNat = [] then 0 else if (M.V (b.drop at_.toNat)).2.2 = 0 then wrap64 (wrap64 ((M.V (b.drop at_.toNat)).2.1 + wrap64 (M.V (b.drop at_.toNat)).1) - wrap64 ((b.length : Int) - at_)) else 1)) ∧ Below w.heap.size w w' := by
  refine flangeref03_Need.calls 1 A c b at_ _ w hC hc ?_
  unfold flangeref03_Need.f
  by_cases h : at_ ≥ (b.length : Int)
  · rw [if_pos h, if_pos (List.drop_of_length_le (by omega))]
  · have hne : b.drop at_.toNat ≠ [] := by
      intro h
      have := congrArg List.length h
      rw [List.length_drop, List.length_nil] at this
      omega
    rw [if_neg h, if_pos h0, if_pos h1, flangeref01_Read.f_ok 1 (hb.drop _) (by rw [List.length_drop]; omega), Option.bind_some, if_neg hne]
    split <;> rfl

end Go.Proofs.Ytmemmhalcieelaa.F
