/-
frame.Wrap and frame.Split: what they come to.
-/
import Derived.Test.YtmemmhalcieelaaFs
namespace Go.Proofs.Ytmemmhalcieelaa.F
open Go.RowKit Go.Proofs.YtmemmhalcieelaaW.PrintWords Go.Proofs.YtmemmhalcieelaaW.PrintLast Go.Proofs.YtmemmhalcieelaaW.PrintMore Go.Proofs.Ytmemmhalcieelaa.V

/-- Wrap's answer. -/
def wrapR (lim : Int) (l : List Int) : List Int × Int := if 0 ≤ lim ∧ lim ≤ 4096 then (if (l.length : Int) > lim then ([], 3) else (M.E l.length ++ l, 0)) else ([], 1)

theorem wrap_c (A : Option Addr) (c : Nat) (l : List Int) (lim : Int) (w : World) (hC : Kd.C (Kd.int .u8) w A l.length l) (hc : l.length ≤ c) (hl : l.length ≤ 1000000) :
    Calls Try.prog 34 #[.slice A l.length c, .int .i64 lim] w fun e w' => ∃ A' c', e = .returned (.tuple #[.slice A' (wrapR lim l).1.length c', .int .i64 (wrapR lim l).2]) ∧ (wrapR lim l).1.length ≤ c' ∧ Kd.C (Kd.int .u8) w' A' (wrapR lim l).1.length (wrapR lim l).1 ∧ Below w.heap.size w w' := by
  refine (frame_Wrap.calls 10 A c l lim (wrapR lim l).1 (wrapR lim l).2 w hC hc ?_).mono ?_
  · unfold frame_Wrap.f frame_right.f
    by_cases h : 0 ≤ lim
    · rw [if_pos (show lim ≥ 0 from h), Option.bind_some]
      by_cases h2 : lim ≤ 4096
      · rw [decide_eq_true h2, if_pos rfl]
        by_cases h3 : (l.length : Int) > lim
        · have hw : wrapR lim l = ([], 3) := by unfold wrapR; rw [if_pos ⟨h, h2⟩, if_pos h3]
          rw [if_pos h3, hw]
        · have hw : wrapR lim l = (M.E l.length ++ l, 0) := by unfold wrapR; rw [if_pos ⟨h, h2⟩, if_neg h3]
          have hu : IntKind.u64.wrap (l.length : Int) = (l.length : Int) := by rw [IntKind.wrap_u64]; omega
          have hE := M.E_le (l.length : Int)
          rw [if_neg h3, hu, append_f (l.length : Int) [] (by omega) (by omega) (by decide), Option.bind_some, if_pos (by simp; omega), hw]
          simp
      · have hw : wrapR lim l = ([], 1) := by unfold wrapR; rw [if_neg (fun h => h2 h.2)]
        rw [decide_eq_false h2, if_neg (by decide), hw]
    · have hw : wrapR lim l = ([], 1) := by unfold wrapR; rw [if_neg (fun h' => h h'.1)]
      rw [if_neg (show ¬ lim ≥ 0 from h), Option.bind_some, if_neg (by decide), hw]
  · rintro e w' ⟨v, rfl, hR, hB⟩
    obtain ⟨A', c', rfl, hle, hC'⟩ := Kd.R_reads hR
    exact ⟨A', c', rfl, hle, hC', hB⟩

theorem all_short (lim : Int) (b : List Int) (hb : M.Bytes b) : (all lim b).2.2 = 5 → (all lim b).2.1 < b.length := by
  revert hb
  refine by_len (p := fun b => M.Bytes b → ((all lim b).2.2 = 5 → (all lim b).2.1 < b.length)) ?_ b
  intro b ih hb
  rw [all_step lim b hb]
  by_cases h0 : b = []
  · rw [if_pos h0]
    intro h
    simp at h
  · rw [if_neg h0]
    have hpos : 0 < b.length := List.length_pos_iff.2 h0
    by_cases h1 : (head b).2.2 ≠ 0
    · rw [if_pos h1]
      intro _
      simp only
      omega
    · rw [if_neg h1]
      have hok := head_ok hb (Decidable.not_not.1 h1)
      by_cases h2 : lim < (head b).1
      · rw [if_pos h2]
        intro h
        simp at h
      · rw [if_neg h2]
        by_cases h3 : (b.length : Int) < (head b).2.1 + (head b).1
        · rw [if_pos h3]
          intro _
          simp only
          omega
        · rw [if_neg h3]
          intro h
          have hl : (b.drop ((head b).2.1 + (head b).1).toNat).length = b.length - ((head b).2.1 + (head b).1).toNat := List.length_drop
          have := ih _ (by omega) (hb.drop ((head b).2.1 + (head b).1).toNat) h
          simp only
          omega

/-- How many bytes frames are, laid. -/
def laid (fs : List (List Int)) : Int := (fs.map fun f => ((M.E (f.length : Int)).length : Int) + f.length).sum
theorem laid_nil : laid [] = 0 := rfl
theorem laid_cons (f : List Int) (fs : List (List Int)) : laid (f :: fs) = ((M.E (f.length : Int)).length : Int) + f.length + laid fs := by simp [laid]
theorem laid_snoc (fs : List (List Int)) (f : List Int) : laid (fs ++ [f]) = laid fs + (((M.E (f.length : Int)).length : Int) + f.length) := by simp [laid]
theorem laid_append (fs gs : List (List Int)) : laid (fs ++ gs) = laid fs + laid gs := by simp [laid]
theorem laid_nonneg : ∀ fs : List (List Int), 0 ≤ laid fs
  | [] => by simp [laid]
  | f :: fs => by rw [laid_cons]; have := laid_nonneg fs; omega

theorem all_laid (lim : Int) (hlim : lim ≤ 4096) (b : List Int) (hb : M.Bytes b) : laid (all lim b).1 = (all lim b).2.1 := by
  revert hb
  refine by_len (p := fun b => M.Bytes b → (laid (all lim b).1 = (all lim b).2.1)) ?_ b
  intro b ih hb
  rw [all_step lim b hb]
  by_cases h0 : b = []
  · rw [if_pos h0]
    rfl
  · rw [if_neg h0]
    by_cases h1 : (head b).2.2 ≠ 0
    · rw [if_pos h1]
      rfl
    · rw [if_neg h1]
      have h1' := Decidable.not_not.1 h1
      have hok := head_ok hb h1'
      by_cases h2 : lim < (head b).1
      · rw [if_pos h2]
        rfl
      · rw [if_neg h2]
        by_cases h3 : (b.length : Int) < (head b).2.1 + (head b).1
        · rw [if_pos h3]
          rfl
        · rw [if_neg h3]
          have hl : (b.drop ((head b).2.1 + (head b).1).toNat).length = b.length - ((head b).2.1 + (head b).1).toNat := List.length_drop
          have hpos : 0 < b.length := List.length_pos_iff.2 h0
          have := ih _ (by omega) (hb.drop ((head b).2.1 + (head b).1).toNat)
          obtain ⟨_, _, _, e4, _⟩ := head_le hb h1' (by omega)
          simp only [laid_cons, this]
          have hf : (((b.take ((head b).2.1 + (head b).1).toNat).drop (head b).2.1.toNat).length : Int) = (head b).1 := by
            rw [List.length_drop, List.length_take]
            omega
          rw [hf, ← e4]

theorem w64 {x : Int} (h0 : 0 ≤ x) (h1 : x ≤ 10000000) : wrap64 x = x := by unfold wrap64; omega

set_option maxHeartbeats 2000000 in
/-- The sum in Split's loop, and what stands behind it: the walk from there on is the caller's. -/
theorem split_bad (A : Option Addr) (c : Nat) (b : List Int) (lim : Int) (w : World) (hlim : ¬ (0 ≤ lim ∧ lim ≤ 4096)) :
    Calls Try.prog 33 #[.slice A b.length c, .int .i64 lim] w fun e w' => e = .returned (.tuple #[.slice none 0 0, .int .i64 0, .int .i64 1]) ∧ Below w.heap.size w w' := by
  go_enter Try.func33, Try.ntmps33
  go_wp2_with (go_at_call 49; refine (new_no lim _ hlim).mono ?_; rintro e w1 ⟨rfl, ⟨nd, rfl⟩⟩)
  go_ret3
  exact ⟨rfl, pw_below_drewN (Below.refl _ _) _⟩

set_option maxHeartbeats 4000000 in
theorem split_c (A : Option Addr) (c : Nat) (b : List Int) (lim : Int) (w : World) (hC : Kd.C (Kd.int .u8) w A b.length b) (hb : M.Bytes b) (hl : b.length ≤ 100000) (hlim : 0 ≤ lim ∧ lim ≤ 4096) :
    Calls Try.prog 33 #[.slice A b.length c, .int .i64 lim] w fun e w' => (∃ A' c', e = .returned (.tuple #[.slice A' (if (all lim b).2.2 = 0 then (all lim b).1 else []).length c', .int .i64 (if (all lim b).2.2 = 0 then ((all lim b).1.length : Int) else (all lim b).2.1), .int .i64 (all lim b).2.2]) ∧
      ((all lim b).2.2 = 0 → Kd.C (Kd.slice 5 (Kd.int .u8)) w' A' (all lim b).1.length (all lim b).1)) ∧ Below w.heap.size w w' := by
  have HC := Aside0.mk hC
  clear hC
  have hF := fun w1 a (hst : w1.heap[a]? = some (.cells (stc (.slice none 0 0) 0 lim 0) 81 (0, 0))) (hB : Below w.heap.size w w1) => feed_c a w.heap.size lim 0 (.slice none 0 0) [] A c b w1 hlim (by decide) (by intro x hx; simp at hx) hb (by simp; omega) hst (World.ownsRow_nil _ _ _ _) hB.size (Kd.C_below HC.out hB)
  simp only [List.nil_append] at hF
  rw [run_all lim b.length b hb (Nat.le_refl _)] at hF
  have HF := Aside0.mk hF
  obtain ⟨f1, f2, f3, f4, f5, f6⟩ := all_facts lim b hb
  have hlaid := all_laid lim hlim.2 b hb
  have hsh := all_short lim b hb
  obtain ⟨R, hR⟩ : ∃ R, all lim b = R := ⟨_, rfl⟩
  rw [hR] at HF f1 f2 f3 f4 f5 f6 hlaid hsh ⊢
  clear hR hF
  obtain ⟨fs, at_, no⟩ := R
  simp only at HF f1 f2 f3 f4 f5 f6 hlaid hsh ⊢
  have HFacts := Aside0.mk (And.intro f1 (And.intro f2 (And.intro f4 (And.intro f5 (And.intro f6 (And.intro hlaid hsh))))))
  clear f1 f2 f4 f5 f6 hlaid hsh
  obtain ⟨flt, hflt⟩ : ∃ x, (if no = 0 ∨ no = 5 then (0 : Int) else no) = x := ⟨_, rfl⟩
  obtain ⟨rest, hrest⟩ : ∃ x, (if no = 0 ∨ no = 5 then b.drop at_.toNat else []) = x := ⟨_, rfl⟩
  rw [hflt, hrest] at HF
  have HFlt := Aside0.mk hflt
  have HRest := Aside0.mk hrest
  have HNo := Aside0.mk f3
  clear hflt hrest f3
  go_enter Try.func33, Try.ntmps33
  go_wp2_with fail
  refine (new_ok lim _ hlim).mono ?_
  rintro e w1 ⟨a, rfl, ha, hst, hB⟩
  have HF1 := Aside0.mk (HF.out w1 a hst hB)
  have HB1 := Aside0.mk hB
  have HA := Aside0.mk ha
  have HLt := Aside0.mk (blk_lt hst)
  clear HF hB ha hst HC
  go_wp2_with fail
  refine HF1.out.mono ?_
  rintro e w2 ⟨lv, bv, rfl, hst, hrow, hRR, _, hk, he⟩
  have HB2 := Aside0.mk (HB1.out.trans (below_keep hk he HB1.out.size HA.out (fun k hk => by simp [Value.ownBlock] at hk)))
  obtain ⟨A2, c2, rfl, _, hC2⟩ := Kd.R_reads hRR
  obtain ⟨A3, c3, rfl, _⟩ := Kd.R_reads (Kd.R_of_own (h1 := fun _ => rfl) (ok := fun _ => True) hrow (fun _ _ => trivial))
  have HC2 := Aside0.mk hC2
  have Hst := Aside0.mk hst
  clear hst hrow hRR hk he hC2 HF1 HB1
  go_wp2_with fail
  go_loopw [10, 29] (fun v10 v29 wr => ∃ i : Nat, i ≤ fs.length ∧ v10 = .int .i64 (laid (fs.take i)) ∧ v29 = .int .i64 (i : Int) ∧ wr = w2) (fun _ v29 _ => fs.length - (intOf v29).toNat)
  case atStart => exact ⟨0, Nat.zero_le _, rfl, rfl, rfl⟩
  case round =>
    obtain ⟨i, hi, rfl, rfl, rfl⟩ := hrel
    by_cases hlt : i < fs.length
    · have hd : decide ((i : Int) < (fs.length : Int)) = true := decide_eq_true (by omega)
      obtain ⟨ad, A4, c4, rfl, hcell, hc4, _⟩ := at_L1 HC2.out (i : Int) (by omega) (by omega)
      rw [Int.toNat_natCast] at hcell
      obtain ⟨f, hf⟩ : ∃ f, rd_L1 fs (i : Int) = f := ⟨_, rfl⟩
      rw [hf] at hcell hc4
      have hf' : f = fs[i] := by
        rw [← hf]
        unfold rd_L1
        rw [Int.toNat_natCast, List.getD_eq_getElem?_getD, List.getElem?_eq_getElem hlt]
        rfl
      have htk : fs.take (i + 1) = fs.take i ++ [f] := by rw [hf', List.take_append_getElem hlt]
      have HLd := Aside0.mk (show laid (fs.take (i + 1)) = laid (fs.take i) + (((M.E (f.length : Int)).length : Int) + f.length) by rw [htk, laid_snoc])
      have hle : laid (fs.take (i + 1)) ≤ 100000 := by
        have h1 : laid fs = laid (fs.take (i + 1)) + laid (fs.drop (i + 1)) := by rw [← laid_append, List.take_append_drop]
        have h2 := laid_nonneg (fs.drop (i + 1))
        obtain ⟨f1, f2, f4, f5, f6, f7, f8⟩ := HFacts.out
        omega
      have h0 := laid_nonneg (fs.take i)
      have hE : 0 ≤ ((M.E (f.length : Int)).length : Int) := by omega
      have hfl : (f.length : Int) ≤ 100000 := by have := HLd.out; omega
      have hu : IntKind.u64.wrap (f.length : Int) = (f.length : Int) := by rw [IntKind.wrap_u64]; omega
      have hi1 : (i : Int) + 1 ≤ 100000 := by
        obtain ⟨f1, f2, f4, f5, f6, f7, f8⟩ := HFacts.out
        omega
      have HS := Aside0.mk (fun W => size_c (f.length : Int) W (Int.natCast_nonneg _) (Int.le_trans hfl (by decide)))
      have hw1 : wrap64 (((M.E (f.length : Int)).length : Int) + f.length) = ((M.E (f.length : Int)).length : Int) + f.length := w64 (by omega) (by have := HLd.out; omega)
      have hw2 : wrap64 (laid (fs.take i) + (((M.E (f.length : Int)).length : Int) + f.length)) = laid (fs.take (i + 1)) := by
        have hle' := hle
        rw [HLd.out] at hle' ⊢
        exact w64 (Int.add_nonneg h0 (Int.add_nonneg hE (Int.natCast_nonneg _))) (Int.le_trans hle' (by decide))
      have hw3 : wrap64 ((i : Int) + 1) = ((i + 1 : Nat) : Int) := w64 (by omega) (by omega)
      clear hf hf' htk hle h0 hE hfl hi1 hc4
      go_wp2_with (go_at_call 17; refine (HS.out _).mono ?_; rintro e w' ⟨rfl, rfl⟩)
      go_roundw
      case rel => exact ⟨i + 1, hlt, by rw [hw2], by rw [hw3], trivial⟩
      case measure =>
        rw [hw3]
        simp only [intOf, Int.toNat_natCast]
        exact Nat.sub_lt_sub_left hlt (Nat.lt_succ_self i)
    · have hd : decide ((i : Int) < (fs.length : Int)) = false := decide_eq_false (by omega)
      have hi' : i = fs.length := by omega
      subst hi'
      rw [List.take_length]
      have hfl := HFlt.out
      have hre := HRest.out
      obtain ⟨f1, f2, f4, f5, f6, f7, f8⟩ := HFacts.out
      have hlaid := f7
      rcases HNo.out with h0 | h3 | h4 | h5
      · subst h0
        rw [if_pos (.inl rfl)] at hfl hre
        rw [List.drop_of_length_le (by omega)] at hre
        subst hfl
        subst hre
        clear f1 f2 f4 f5 f6 f7 f8 hlaid
        go_wp2_with (go_at_call 29; refine (buffered_c a A3 _ c3 _ _ _ _ Hst.out).mono ?_; rintro e w' ⟨rfl, rfl⟩)
        go_ret3
        exact ⟨⟨A2, ⟨c2, rfl⟩, HC2.out⟩, HB2.out⟩
      · subst h3
        rw [if_neg (by decide)] at hfl
        subst hfl
        clear f1 f2 f4 f5 f6 f7 f8
        go_wp2_with fail
        go_ret3
        exact ⟨⟨none, 0, by simp⟩, HB2.out⟩
      · subst h4
        rw [if_neg (by decide)] at hfl
        subst hfl
        clear f1 f2 f4 f5 f6 f7 f8
        go_wp2_with fail
        go_ret3
        exact ⟨⟨none, 0, by simp⟩, HB2.out⟩
      · subst h5
        rw [if_pos (.inr rfl)] at hfl hre
        subst hfl
        have hrl : 0 < rest.length := by rw [← hre, List.length_drop]; have := f8 rfl; omega
        have hz : decide ((0 : Int) < (rest.length : Int)) = true := decide_eq_true (by omega)
        clear f1 f2 f4 f5 f6 f7 f8 hre
        go_wp2_with (go_at_call 29; refine (buffered_c a A3 _ c3 _ _ _ _ Hst.out).mono ?_; rintro e w' ⟨rfl, rfl⟩)
        go_ret3
        exact ⟨⟨none, 0, by simp⟩, HB2.out⟩

end Go.Proofs.Ytmemmhalcieelaa.F
