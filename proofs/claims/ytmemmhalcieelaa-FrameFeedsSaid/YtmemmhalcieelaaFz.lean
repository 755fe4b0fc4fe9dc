/-
FrameFeeds, the parts: what an assembler needs; Feed in both modes; the two short ways out.
-/
import Derived.Test.YtmemmhalcieelaaFy
namespace Go.Proofs.Ytmemmhalcieelaa.F
open Go.RowKit Go.Proofs.YtmemmhalcieelaaW.PrintWords Go.Proofs.YtmemmhalcieelaaW.PrintLast Go.Proofs.YtmemmhalcieelaaW.PrintMore Go.Proofs.Ytmemmhalcieelaa.V

/-- Nothing broke it. -/
def okno (no : Int) : Prop := no = 0 ∨ no = 5

theorem need_eq {lim : Int} (hlim : 0 ≤ lim ∧ lim ≤ 4096) {Q : List Int} (hQ : M.Bytes Q) (hl : Q.length ≤ 100000) (hno : okno (all lim Q).2.2) :
    (if Q.drop (all lim Q).2.1.toNat = [] then 0 else if (M.V (Q.drop (all lim Q).2.1.toNat)).2.2 = 0 then wrap64 (wrap64 ((M.V (Q.drop (all lim Q).2.1.toNat)).2.1 + wrap64 (M.V (Q.drop (all lim Q).2.1.toNat)).1) - wrap64 ((Q.length : Int) - (all lim Q).2.1)) else 1) = need (held' lim Q) := by
  have hap := all_app lim Q hQ [] (fun x hx => absurd hx List.not_mem_nil) hno
  obtain ⟨f1, f2, _⟩ := all_facts lim Q hQ
  have hD : M.Bytes (held' lim Q) := hQ.drop _
  have hdl : (held' lim Q).length = Q.length - (all lim Q).2.1.toNat := List.length_drop
  simp only [List.append_nil] at hap
  have hno' : (all lim (held' lim Q)).2.2 = (all lim Q).2.2 := (congrArg (fun x => x.2.2) hap).symm
  unfold need
  rw [show Q.drop (all lim Q).2.1.toNat = held' lim Q from rfl]
  obtain ⟨D, hDe⟩ : ∃ D, held' lim Q = D := ⟨_, rfl⟩
  rw [hDe] at hD hdl hno' ⊢
  by_cases h0 : D = []
  · rw [if_pos h0, if_pos h0]
  · rw [if_neg h0, if_neg h0]
    have he := head_e D
    by_cases h1 : (head D).2.2 = 0
    · have h4 : (head D).1 ≤ lim := by
        apply Int.not_lt.1
        intro hlt
        have hs := all_step lim D hD
        rw [if_neg h0, if_neg (show ¬ (head D).2.2 ≠ 0 from fun h => h h1), if_pos hlt] at hs
        rw [hs] at hno'
        rcases hno with h | h
        · rw [h] at hno'
          cases hno'
        · rw [h] at hno'
          cases hno'
      obtain ⟨e1, e2, e3, _⟩ := head_le hD h1 (by omega)
      obtain ⟨hS1, hS10, hSb, hN0, hN4⟩ := head_ok hD h1
      rw [if_pos e3, if_pos h1, e1, e2]
      unfold wrap64
      omega
    · rw [if_neg h1, if_neg (by rw [← he]; exact h1)]

/-- What an assembler holds, when bytes have been fed. -/
def hold (lim : Int) (Q : List Int) : List Int := if (all lim Q).2.2 = 0 ∨ (all lim Q).2.2 = 5 then held' lim Q else []
theorem hold_ok {lim : Int} {Q : List Int} (h : okno (all lim Q).2.2) : hold lim Q = held' lim Q := if_pos h
theorem hold_lost {lim : Int} {Q : List Int} (h : ¬ okno (all lim Q).2.2) : hold lim Q = [] := if_neg h
theorem flt_ok {no : Int} (h : okno no) : flt no = 0 := if_pos h
theorem flt_lost {no : Int} (h : ¬ okno no) : flt no = no := if_neg h
theorem lost_ne {no : Int} (h : ¬ okno no) : no ≠ 0 := fun e => h (.inl e)

/-- The assembler's state, when bytes have been fed. -/
def St (a nb : Nat) (lim : Int) (Q : List Int) (bv : Value) (w : World) : Prop :=
  w.heap[a]? = some (.cells (stc bv (flt (all lim Q).2.2) lim (size (all lim Q).1)) 81 (0, 0)) ∧ w.ownsRow nb 5 1 bv (hold lim Q).length (nums .u8 (hold lim Q)) ∧ nb ≤ w.heap.size

theorem feed_any (a nb : Nat) (lim : Int) (Q ch : List Int) (bv : Value) (A : Option Addr) (c : Nat) (w : World) (hlim : 0 ≤ lim ∧ lim ≤ 4096) (hQ : M.Bytes Q) (hch : M.Bytes ch) (hlen : Q.length + ch.length ≤ 100000)
    (hst : St a nb lim Q bv w) (hna : nb ≤ a) (hC : Kd.C (Kd.int .u8) w A ch.length ch) :
    Calls Try.prog 28 #[.pointer (some ⟨a, 0, none⟩), .slice A ch.length c] w fun e w' => ∃ (lv bv' : Value) (Q' : List Int) (gs : List (List Int)) (f : Int), e = .returned (.tuple #[lv, .int .i64 f]) ∧
      St a nb lim Q' bv' w' ∧ Kd.R (Kd.slice 5 (Kd.int .u8)) 23 w' w.heap.size (fun k => some k ≠ bv'.ownBlock) lv gs ∧
      (∀ k, bv'.ownBlock = some k → w.heap.size ≤ k ∨ bv.ownBlock = some k) ∧ KeepBut w w' a bv.ownBlock ∧ Below nb w w' ∧
      (okno (all lim Q).2.2 ∧ Q' = Q ++ ch ∧ gs = more lim Q ch ∧ f = flt (all lim (Q ++ ch)).2.2 ∨ ¬ okno (all lim Q).2.2 ∧ Q' = Q ∧ gs = [] ∧ f = 11) := by
  obtain ⟨h1, h2, h3⟩ := hst
  by_cases h : okno (all lim Q).2.2
  · rw [flt_ok h] at h1
    rw [hold_ok h] at h2
    refine (feed_step a nb lim Q ch bv A c w hlim hQ hch hlen h h1 h2 h3 hna hC).mono ?_
    rintro e w' ⟨lv, bv', rfl, g1, g2, g3, g4, g5, g6⟩
    exact ⟨lv, bv', Q ++ ch, more lim Q ch, _, rfl, ⟨g1, g2, Nat.le_trans h3 g6.size⟩, g3, g4, g5, g6, .inl ⟨h, rfl, rfl, rfl⟩⟩
  · have hne : flt (all lim Q).2.2 ≠ 0 := by rw [flt_lost h]; exact lost_ne h
    refine (feed_lost a bv _ lim _ _ w hne h1).mono ?_
    rintro e w' ⟨rfl, rfl⟩
    exact ⟨_, bv, Q, [], 11, rfl, ⟨h1, h2, h3⟩, Kd.R_nil _ _ _ _ _, fun k hk => .inr hk, KeepBut.refl _ _ _, Below.refl _ _, .inr ⟨h, rfl, rfl, rfl⟩⟩

theorem St_below {a nb : Nat} {lim : Int} {Q : List Int} {bv : Value} {w w' : World} (h : St a nb lim Q bv w) (hb : Below w.heap.size w w') : St a nb lim Q bv w' :=
  ⟨by rw [hb.block a (blk_lt h.1)]; exact h.1, own_after h.2.1 hb, Nat.le_trans h.2.2 hb.size⟩

/-- The chunk's copy is written: what the assembler holds, its frames, all bytes: they lie on. -/
theorem after_c {wo w3 w4 : World} {a nb : Nat} {lim : Int} {Q Q' : List Int} {bv bv' lv v7 cv : Value} {n : Nat} {xs : List Value} {gs : List (List Int)}
    (hst : St a nb lim Q bv wo) (hR : Kd.R (Kd.int .u8) 5 wo nb (fun k => some k ≠ bv.ownBlock) v7 Q) (hb3 : Below wo.heap.size wo w3) (hcr : w3.ownsRow wo.heap.size 5 1 cv n xs)
    (hst' : St a nb lim Q' bv' w4) (hlv : Kd.R (Kd.slice 5 (Kd.int .u8)) 23 w4 w3.heap.size (fun k => some k ≠ bv'.ownBlock) lv gs)
    (hbk : ∀ k, bv'.ownBlock = some k → w3.heap.size ≤ k ∨ bv.ownBlock = some k) (hk : KeepBut w3 w4 a bv.ownBlock) :
    w4.ownsRow wo.heap.size 5 1 cv n xs ∧ ∀ wE, w4.grownBy wE cv.ownBlock → St a nb lim Q' bv' wE ∧ Kd.R (Kd.slice 5 (Kd.int .u8)) 23 wE w3.heap.size (fun k => some k ≠ bv'.ownBlock) lv gs ∧
      Kd.R (Kd.int .u8) 5 wE nb (fun k => some k ≠ bv'.ownBlock) v7 Q ∧ (∀ k, v7.ownBlock = some k → k < w3.heap.size) ∧ Below nb w4 wE := by
  have ha := blk_lt hst.1
  refine ⟨own_move hcr (fun k hv => hk.2 k (own_lt hcr k hv) (fun e => ?_) (fun e => ?_)), fun wE hg => ⟨⟨?_, own_move hst'.2.1 (fun k hv => hg.block k (own_lt hst'.2.1 k hv) (fun e => ?_)), Nat.le_trans hst'.2.2 hg.size⟩,
    Kd.R_mono (Kd.R_step (Kd.R_bound hlv) (fun k hv hlt => hg.block k hlt (fun e => ?_))) (fun k hv => hv.1), ?_, fun k hv => ?_, ⟨hg.os, hg.tape, hg.output, hg.size, fun k hlt => hg.block k (Nat.lt_of_lt_of_le hlt hst'.2.2) (fun e => ?_)⟩⟩⟩
  · have := own_base hcr k hv
    omega
  · have h1 := own_base hcr k hv
    have h2 := own_lt hst.2.1 k e.symm
    omega
  · rw [hg.block a (blk_lt hst'.1) (fun e => ?_)]
    · exact hst'.1
    · have := own_base hcr a e.symm
      omega
  · rcases hbk k hv with h | h
    · have := own_lt hcr k e.symm
      omega
    · have h1 := own_base hcr k e.symm
      have h2 := own_lt hst.2.1 k h
      omega
  · have h1 := own_lt hcr k e.symm
    have h2 := hv.2.1
    omega
  · have h0 := Kd.R_types (Kd.R_bound hR) hst.1 (by decide)
    have h1 := Kd.R_below h0 hb3
    have h2 := Kd.R_step h1 (fun k hv hlt => hk.2 k hlt hv.2 hv.1.1)
    have h3 := Kd.R_step h2 (fun k hv hlt => hg.block k hlt (fun e => by
      have h4 := own_base hcr k e.symm
      have h5 := hv.1.2.2.1
      omega))
    refine Kd.R_mono h3 (fun k hv e => ?_)
    rcases hbk k e.symm with h | h
    · have h4 := hv.1.2.2.1
      have h5 := hb3.size
      omega
    · exact hv.1.1 h.symm
  · have h1 := own_lt (Kd.own_of_R hR) k hv
    have h2 := hb3.size
    omega
  · have h1 := own_base hcr k e.symm
    have h2 := hst.2.2
    omega

/-- The chunk is appended to all bytes. -/
theorem after_all {wE w5 : World} {a nb b3 : Nat} {lim : Int} {Q Q' : List Int} {bv lv v7 : Value} {gs : List (List Int)} (hst : St a nb lim Q' bv wE) (hlv : Kd.R (Kd.slice 5 (Kd.int .u8)) 23 wE b3 (fun k => some k ≠ bv.ownBlock) lv gs)
    (hR : Kd.R (Kd.int .u8) 5 wE nb (fun k => some k ≠ bv.ownBlock) v7 Q) (hlt : ∀ k, v7.ownBlock = some k → k < b3) (hg : wE.grownBy w5 v7.ownBlock) :
    St a nb lim Q' bv w5 ∧ Kd.R (Kd.slice 5 (Kd.int .u8)) 23 w5 b3 (fun k => some k ≠ bv.ownBlock) lv gs := by
  refine ⟨⟨blk_grown hst.1 hg (Kd.R_ne hR hst.1 (by decide)), own_move hst.2.1 (fun k hv => hg.block k (own_lt hst.2.1 k hv) (fun e => hR.1 k e.symm hv.symm)), Nat.le_trans hst.2.2 hg.size⟩,
    Kd.R_mono (Kd.R_step (Kd.R_bound hlv) (fun k hv hk => hg.block k hk (fun e => ?_))) (fun k hv => hv.1)⟩
  have h1 := hlt k e.symm
  have h2 := hv.2.1
  omega

set_option maxRecDepth 100000 in
theorem feeds_long (lim : Int) (A : Option Addr) (n c : Nat) (w : World) (h : n > 20) :
    Calls Try.prog 14 #[.int .i64 lim, .slice A n c] w fun e w' => e = .returned (.bool true) ∧ Below w.heap.size w w' := by
  have hd : decide ((20 : Int) < (n : Int)) = true := decide_eq_true (by omega)
  clear h
  go_enter Try.func14, Try.ntmps14
  go_wp2_with (go_at_call 27; refine (awake_c _).mono ?_; rintro e w1 ⟨rfl, hB⟩)
  go_ret
  exact ⟨rfl, hB⟩

set_option maxRecDepth 100000 in
theorem feeds_bad (lim : Int) (A : Option Addr) (n c : Nat) (w : World) (h : ¬ n > 20) (hlim : ¬ (0 ≤ lim ∧ lim ≤ 4096)) :
    Calls Try.prog 14 #[.int .i64 lim, .slice A n c] w fun e w' => e = .returned (.bool true) ∧ Below w.heap.size w w' := by
  have hd : decide ((20 : Int) < (n : Int)) = false := decide_eq_false (by omega)
  have HN := Aside0.mk (fun W => new_no lim W hlim)
  by_cases h0 : lim < 0
  · have hd1 : decide (lim < 0) = true := decide_eq_true h0
    clear h h0 hlim
    go_enter Try.func14, Try.ntmps14
    go_wp2_with (first | (go_at_call 27; refine (awake_c _).mono ?_; rintro e w1 ⟨rfl, hB⟩) | (go_at_call 49; refine (HN.out _).mono ?_; rintro e w2 ⟨rfl, ⟨nd, rfl⟩⟩))
    go_ret
    exact ⟨rfl, pw_below_drewN hB _⟩
  · have hd1 : decide (lim < 0) = false := decide_eq_false h0
    have hd2 : decide (4096 < lim) = true := decide_eq_true (by omega)
    clear h h0 hlim
    go_enter Try.func14, Try.ntmps14
    go_wp2_with (first | (go_at_call 27; refine (awake_c _).mono ?_; rintro e w1 ⟨rfl, hB⟩) | (go_at_call 49; refine (HN.out _).mono ?_; rintro e w2 ⟨rfl, ⟨nd, rfl⟩⟩))
    go_ret
    exact ⟨rfl, pw_below_drewN hB _⟩

end Go.Proofs.Ytmemmhalcieelaa.F
