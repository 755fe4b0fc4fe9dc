/-
The law FrameFeeds, the main case: an assembler of a good limit, fed chunk by chunk.
-/
import Derived.Test.YtmemmhalcieelaaFx
import Derived.Test.YtmemmhalcieelaaFz
import Derived.Test.YtmemmhalcieelaaFo
namespace Go.Proofs.Ytmemmhalcieelaa.F
open Go.RowKit Go.Proofs.YtmemmhalcieelaaW.PrintWords Go.Proofs.YtmemmhalcieelaaW.PrintLast Go.Proofs.YtmemmhalcieelaaW.PrintMore Go.Proofs.Ytmemmhalcieelaa.V

theorem St_nil {a nb : Nat} {lim : Int} {w : World} (h : w.heap[a]? = some (.cells (stc (.slice none 0 0) 0 lim 0) 81 (0, 0))) (hb : nb ≤ w.heap.size) : St a nb lim [] (.slice none 0 0) w :=
  ⟨by simpa [all, cut, size, flt] using h, by simpa [hold, held', all, cut, nums] using World.ownsRow_nil _ _ _ _, hb⟩

theorem cmp_rd {F T gs : List (List Int)} {tl k m : Nat} (hF : F = T ++ gs) (ht : tl = T.length) (hm : tl + k = m) (hk : k < gs.length) : rd_L1 F (m : Int) = rd_L1 gs (k : Int) ∧ m < F.length := by
  subst hF ht hm
  have h : T.length + k < (T ++ gs).length := by rw [List.length_append]; omega
  refine ⟨?_, h⟩
  rw [rd_at h, rd_at hk, List.getElem_append_right (Nat.le_add_right _ _)]
  congr 1
  omega

theorem cmp_add {F gs : List (List Int)} {tl k m n : Nat} (hF : F.length = tl + gs.length) (hm : tl + k = m) (hk : k < gs.length) (hn : F.length ≤ n) (h : n ≤ 6300) : wrap64 ((tl : Int) + (k : Int)) = (m : Int) := by
  subst hm
  rw [← Int.natCast_add]
  exact w64 (by omega) (by omega)

theorem cmp_sum {F T gs : List (List Int)} {tt s : Int} {k : Nat} {g : List Int} {n : Nat} (hF : F = T ++ gs) (htt : tt = size T) (hs : s = tt + size (gs.take k)) (ht : gs.take (k + 1) = gs.take k ++ [g]) (hsz : size F ≤ (n : Int)) (hn : n ≤ 6300) :
    wrap64 (s + (g.length : Int)) = s + (g.length : Int) ∧ s + (g.length : Int) = tt + size (gs.take (k + 1)) := by
  subst hF htt hs
  have h2 : size (gs.take (k + 1)) = size (gs.take k) + g.length := by rw [ht, size_append]; simp [size]
  have h3 := size_nonneg (gs.take k)
  have h4 : size (gs.take (k + 1)) + size (gs.drop (k + 1)) = size gs := by rw [← size_append, List.take_append_drop]
  have h5 := size_nonneg (gs.drop (k + 1))
  have h8 := size_nonneg T
  rw [size_append] at hsz
  constructor
  · unfold wrap64
    omega
  · omega

theorem sum_all {F T gs : List (List Int)} {tt s : Int} {k : Nat} (hF : F = T ++ gs) (htt : tt = size T) (hs : s = tt + size (gs.take k)) (hk : k = gs.length) : s = size F := by
  subst hF htt hs hk
  rw [List.take_length, size_append]

/-- What a live assembler tells. -/
theorem ok_tail {a nb : Nat} {lim at_ s : Int} {Q : List Int} {bv : Value} {W : World} {A : Option Addr} {c : Nat} (hSt : St a nb lim Q bv W) (hok : okno (all lim Q).2.2) (hQ : M.Bytes Q) (hl : Q.length ≤ 6300) (hlim : 0 ≤ lim ∧ lim ≤ 4096) (hs : s = size (all lim Q).1) (hat : (all lim Q).2.1 = at_) (hc : Q.length ≤ c) :
    ∃ (nd : Int) (n : Nat), wrap64 ((Q.length : Int) - at_) = (n : Int) ∧ (∀ W', Below W.heap.size W W' → Calls Try.prog 30 #[.pointer (some ⟨a, 0, none⟩)] W' fun e w' => e = .returned (.int .i64 0) ∧ W' = w') ∧
      (∀ W', Below W.heap.size W W' → Calls Try.prog 29 #[.pointer (some ⟨a, 0, none⟩)] W' fun e w' => e = .returned (.int .i64 (n : Int)) ∧ W' = w') ∧
      (∀ W', Below W.heap.size W W' → Calls Try.prog 31 #[.pointer (some ⟨a, 0, none⟩)] W' fun e w' => e = .returned (.int .i64 nd) ∧ Drawn0 W' w') ∧
      (∀ W', Kd.C (Kd.int .u8) W' A Q.length Q → Calls Try.prog 50 #[.slice A Q.length c, .int .i64 at_] W' fun e w' => e = .returned (.int .i64 nd) ∧ Below W'.heap.size W' w') ∧
      (∀ W', Below W.heap.size W W' → Calls Try.prog 32 #[.pointer (some ⟨a, 0, none⟩)] W' fun e w' => e = .returned (.int .i64 s) ∧ W' = w') := by
  subst hs hat
  obtain ⟨f1, f2, _⟩ := all_facts lim Q hQ
  have hdl : (held' lim Q).length = Q.length - (all lim Q).2.1.toNat := List.length_drop
  have hrow := hSt.2.1
  have hst := hSt.1
  rw [hold_ok hok] at hrow
  rw [flt_ok hok] at hst
  obtain ⟨Ab, cb, rfl, hcb, hCb⟩ := Kd.R_reads (Kd.R_of_own (h1 := fun _ => rfl) (ok := fun _ => True) hrow (fun _ _ => trivial))
  have hst' : ∀ W', Below W.heap.size W W' → W'.heap[a]? = _ := fun W' hB => (hB.block a (blk_lt hst)).trans hst
  refine ⟨need (held' lim Q), (held' lim Q).length, ?_, fun W' hB => fault_c a _ 0 lim _ W' (hst' W' hB), fun W' hB => buffered_c a Ab _ cb 0 lim _ W' (hst' W' hB), fun W' hB => need_c a Ab _ cb 0 lim _ W' (hst' W' hB) (Kd.C_below hCb hB) hcb (hQ.drop _) (by omega), fun W' hC => ?_,
    fun W' hB => total_c a _ 0 lim _ W' (hst' W' hB)⟩
  · rw [show (Q.length : Int) - (all lim Q).2.1 = ((held' lim Q).length : Int) by omega]
    exact w64 (by omega) (by omega)
  · have h := refneed_c A c Q (all lim Q).2.1 W' hC hc hQ (by omega) f1 f2
    rw [need_eq hlim hQ (by omega) hok] at h
    exact h

/-- What a broken one tells. -/
theorem lost_tail {a nb : Nat} {lim : Int} {Q : List Int} {bv : Value} {W : World} (hSt : St a nb lim Q bv W) (hno : ¬ okno (all lim Q).2.2) :
    (∀ W', Below W.heap.size W W' → Calls Try.prog 29 #[.pointer (some ⟨a, 0, none⟩)] W' fun e w' => e = .returned (.int .i64 0) ∧ W' = w') ∧
      (∀ W', Below W.heap.size W W' → Calls Try.prog 31 #[.pointer (some ⟨a, 0, none⟩)] W' fun e w' => e = .returned (.int .i64 0) ∧ Drawn0 W' w') := by
  have hrow := hSt.2.1
  have hst := hSt.1
  rw [hold_lost hno] at hrow
  obtain ⟨Ab, cb, rfl, hcb, hCb⟩ := Kd.R_reads (Kd.R_of_own (h1 := fun _ => rfl) (ok := fun _ => True) hrow (fun _ _ => trivial))
  have hst' : ∀ W', Below W.heap.size W W' → W'.heap[a]? = _ := fun W' hB => (hB.block a (blk_lt hst)).trans hst
  refine ⟨fun W' hB => buffered_c a Ab 0 cb _ lim _ W' (hst' W' hB), fun W' hB => ?_⟩
  have h := need_c a Ab [] cb _ lim _ W' (hst' W' hB) (Kd.C_below hCb hB) hcb (fun x hx => absurd hx List.not_mem_nil) (Nat.zero_le _)
  rw [show need [] = 0 from if_pos rfl] at h
  exact h

theorem ok_ne {no : Int} (h : okno no) : (no == 3) = false ∧ (no == 4) = false := by
  rcases h with rfl | rfl
  · exact ⟨rfl, rfl⟩
  · exact ⟨rfl, rfl⟩

theorem lost_34 {no : Int} (h : ¬ okno no) (hf : no = 0 ∨ no = 3 ∨ no = 4 ∨ no = 5) : no = 3 ∨ no = 4 := by
  rcases hf with e | e | e | e
  · exact absurd (.inl e) h
  · exact .inl e
  · exact .inr e
  · exact absurd (.inr e) h

theorem suc_small {k n : Nat} (hk : k < n) (hn : n ≤ 10000) : wrap64 ((k : Int) + 1) = ((k + 1 : Nat) : Int) := w64 (by omega) (by omega)

set_option maxRecDepth 100000 in
set_option maxHeartbeats 8000000 in
theorem feeds_ok (lim : Int) (A : Option Addr) (c : Nat) (ls : List (List Int)) (w : World) (hC : Kd.C (Kd.slice 5 (Kd.int .u8)) w A ls.length ls) (hb : ∀ f ∈ ls, M.Bytes f) (h : ¬ ls.length > 20) (hlim : 0 ≤ lim ∧ lim ≤ 4096) :
    Calls Try.prog 14 #[.int .i64 lim, .slice A ls.length c] w fun e w' => e = .returned (.bool true) ∧ Below w.heap.size w w' := by
  have hd1 : decide ((20 : Int) < (ls.length : Int)) = false := decide_eq_false (by omega)
  have hd2 : decide (lim < 0) = false := decide_eq_false (by omega)
  have hd3 : decide (4096 < lim) = false := decide_eq_false (by omega)
  have HC := Aside0.mk hC
  have HB := Aside0.mk hb
  have HL := Aside0.mk (show ls.length ≤ 20 by omega)
  have HLim := Aside0.mk hlim
  clear hC hb h hlim
  go_enter Try.func14, Try.ntmps14
  go_wp2_with (go_at_call 27; refine (awake_c _).mono ?_; rintro e w1 ⟨rfl, hB⟩; have HW1 := Aside0.mk hB; clear hB)
  refine (new_ok lim _ HLim.out).mono ?_
  rintro e w2 ⟨a, rfl, ha, hst, hB2⟩
  obtain ⟨nb, hnb⟩ : ∃ x, w1.heap.size = x := ⟨_, rfl⟩
  rw [hnb] at ha hB2
  have HA := Aside0.mk ha
  have HSt := Aside0.mk (St_nil (nb := nb) hst (hnb ▸ hB2.size))
  have HNbw := Aside0.mk (show w.heap.size ≤ nb from hnb ▸ HW1.out.size)
  have HW2 := Aside0.mk (HW1.out.trans (hB2.mono HNbw.out))
  clear ha hst hB2 HW1 hnb
  go_wp2_with fail
  go_loopw [7, 8, 9, 10, 11] (fun v7 v8 v9 v10 v11 wr => ∃ (i : Nat) (Q : List Int) (bv : Value) (tl : Nat) (br tt : Int), i ≤ ls.length ∧ v8 = .int .i64 (tl : Int) ∧ v9 = .int .i64 br ∧ v10 = .int .i64 tt ∧ v11 = .int .i64 (i : Int) ∧
      Aside0 (tl = (all lim Q).1.length ∧ br = flt (all lim Q).2.2 ∧ tt = size (all lim Q).1) ∧ Aside0 (M.Bytes Q ∧ Q.length ≤ i * 300) ∧ Aside0 (St a nb lim Q bv wr) ∧
      Aside0 (Kd.R (Kd.int .u8) 5 wr nb (fun k => some k ≠ bv.ownBlock) v7 Q) ∧ Aside0 (Below w.heap.size w wr)) (fun _ _ _ _ v11 _ => ls.length - (intOf v11).toNat)
  case atStart =>
    exact ⟨0, [], .slice none 0 0, 0, 0, 0, Nat.zero_le _, rfl, rfl, rfl, rfl, ⟨by simp [all, cut, flt, size]⟩, ⟨fun x hx => absurd hx List.not_mem_nil, Nat.zero_le _⟩, ⟨HSt.out⟩, ⟨Kd.R_nil _ _ _ _ _⟩, ⟨HW2.out⟩⟩
  case round =>
    clear HW2 HSt
    obtain ⟨i, Q, bv, tl, br, tt, hi, rfl, rfl, rfl, rfl, HT, HQ, HSt, HR, HW⟩ := hrel
    by_cases hlt : i < ls.length
    · have hdi : decide ((i : Int) < (ls.length : Int)) = true := decide_eq_true (by omega)
      obtain ⟨ad, A4, c4, rfl, hcell, hc4, hC4⟩ := at_L1 HC.out (i : Int) (by omega) (by omega)
      rw [Int.toNat_natCast] at hcell
      have hfm : rd_L1 ls (i : Int) ∈ ls := by rw [rd_at hlt]; exact List.getElem_mem hlt
      have hfb := HB.out _ hfm
      obtain ⟨f, hf⟩ : ∃ f, rd_L1 ls (i : Int) = f := ⟨_, rfl⟩
      rw [hf] at hcell hc4 hC4 hfb
      clear hf hfm
      have HCf := Aside0.mk hC4
      have HFb := Aside0.mk hfb
      have HCell := Aside0.mk (show ∀ W, Below w.heap.size w W → W.cell? (ad.add i) = some (.slice A4 f.length c4) from fun W hB => by
        have hl : (ad.add i).block < w.heap.size := by
          rcases Nat.lt_or_ge (ad.add i).block w.heap.size with h | h
          · exact h
          · simp [World.cell?, Array.getElem?_eq_none h] at hcell
        rw [hB.cell hl]
        exact hcell)
      have hcell0 := HCell.out _ HW.out
      clear hcell hC4 hfb hi
      by_cases hbig : f.length > 300
      · have hd4 : decide ((300 : Int) < (f.length : Int)) = true := decide_eq_true (by omega)
        clear hbig
        go_wp2_with fail
        go_ret
        exact ⟨rfl, HW.out⟩
      · have hd4 : decide ((300 : Int) < (f.length : Int)) = false := decide_eq_false (by omega)
        have HFl := Aside0.mk (show f.length ≤ 300 by omega)
        have hcell1 : ∀ o, (wr.alloc o).cell? (ad.add i) = some (.slice A4 f.length c4) := fun o => HCell.out _ (HW.out.alloc HW.out.size o)
        clear hbig
        have HO0 := Aside0.mk (Kd.R_of_own (h1 := fun _ => rfl) (ok := fun _ => True) (own_lit wr wr.heap.size 5 .u8 [] (Nat.le_refl _) (by decide)) (fun _ _ => trivial))
        have HCf1 := Aside0.mk (show Kd.C (Kd.int .u8) (wr.alloc (.cells #[] 5)) A4 f.length f from Kd.C_below HCf.out (HW.out.alloc HW.out.size _))
        have HBa := Aside0.mk (show Below wr.heap.size wr (wr.alloc (.cells #[] 5)) from (Below.refl _ _).alloc (Nat.le_refl _) _)
        have HSz := Aside0.mk (show (([] : List Int).length + f.length) * 1 ≤ 140737488355328 by have := HFl.out; simp only [List.length_nil]; omega)
        go_wp2_with (at_builtin; refine Kd.R_append_rows (Kd.int .u8) (w0 := wr) wr.heap.size rfl (.tmp 57) (.tmp 61) 23 5 (.int .u8 0) 1 rfl Try.underlying23 info5 rfl (by decide) (by decide) (.slice (some ⟨wr.heap.size, 0, none⟩) 0 0) [] f _ _ _ (fun _ => True) (fun _ => False) rfl rfl HO0.out HCf1.out (fun _ _ h => h) (fun _ h => h.elim) (fun _ _ => trivial) HBa.out HBa.out.size HSz.out ?_; intro v1 w3 ho hbw _ _; rw [List.nil_append] at ho; obtain ⟨A7, c7, rfl, hc7, hC7⟩ := Kd.R_reads ho; have HOc := Aside0.mk (Kd.own_of_R ho); have HC7 := Aside0.mk hC7; have HBw := Aside0.mk hbw; have Hc7 := Aside0.mk hc7; clear ho hbw hC7 hc7)
        have HFeed := Aside0.mk (feed_any a nb lim Q f bv A7 c7 w3 HLim.out HQ.out.1 HFb.out (by have h1 := HQ.out.2; have h2 := HFl.out; have h3 := HL.out; omega) (St_below HSt.out HBw.out) HA.out HC7.out)
        have HW3 := Aside0.mk (below_step HW.out HBw.out)
        clear HO0 HCf1 HBa HSz hcell0 hcell1
        refine HFeed.out.mono ?_
        rintro e w4 ⟨lv, bv', Q', gs, fz, rfl, hst4, hlv, hbk, hk4, hb4, hmode⟩
        obtain ⟨A8, c8, rfl, _, _⟩ := Kd.R_reads hlv
        obtain ⟨hc4', hafter⟩ := after_c HSt.out HR.out HBw.out HOc.out hst4 hlv hbk hk4
        obtain ⟨b3, hb3⟩ : ∃ x, w3.heap.size = x := ⟨_, rfl⟩
        obtain ⟨b0, hb0⟩ : ∃ x, wr.heap.size = x := ⟨_, rfl⟩
        rw [hb3] at hafter
        rw [hb0] at hc4'
        have HY0 := Aside0.mk hc4'
        have HAft := Aside0.mk hafter
        have HMode := Aside0.mk hmode
        have HW4 := Aside0.mk (HW3.out.trans (hb4.mono HNbw.out))
        clear hst4 hlv hbk hk4 hb4 hmode hc4' hafter hb3 hb0 HFeed HW3 HSt HR HW HBw HOc HC7 Hc7
        go_wp2_with fail
        go_loopw [15] (fun v15 wq => ∃ (k : Nat) (ys : List Int), k ≤ f.length ∧ v15 = .int .i64 (k : Int) ∧ Aside0 (wq.ownsRow b0 5 1 (.slice A7 f.length c7) f.length (nums .u8 ys)) ∧ Aside0 (w4.grownBy wq (Value.slice A7 f.length c7).ownBlock)) (fun v15 _ => f.length - (intOf v15).toNat)
        case atStart => exact ⟨0, f, Nat.zero_le _, rfl, HY0, ⟨World.grownBy.refl _ _⟩⟩
        case round =>
          clear HY0
          obtain ⟨k, ys, hk, rfl, HY, HG⟩ := hrel
          by_cases hklt : k < f.length
          · have hdk : decide ((k : Int) < (f.length : Int)) = true := decide_eq_true (by omega)
            obtain ⟨g, hA7⟩ : ∃ g : Nat, A7 = some ⟨g, 0, none⟩ := by
              obtain ⟨g, cap, hg⟩ := Joins.ownsRow_form HY.out (by omega)
              simp only [Value.slice.injEq] at hg
              exact ⟨g, hg.1⟩
            subst hA7
            obtain ⟨hcl, hfr⟩ := own_at HY.out (k : Int) (by omega) (by omega)
            rw [Int.toNat_natCast] at hcl hfr
            obtain ⟨x, hx⟩ : ∃ x, rd ys (k : Int) = x := ⟨_, rfl⟩
            rw [hx] at hcl
            have hw3 : wrap64 ((k : Int) + 1) = ((k + 1 : Nat) : Int) := w64 (by omega) (by have := HFl.out; omega)
            clear hx
            go_wp2_with fail
            go_roundw
            case rel =>
              have hs := own_store HY.out (k : Int) ((x + 1) % 256)
              rw [Int.toNat_natCast] at hs
              exact ⟨k + 1, ys.set k ((x + 1) % 256), hklt, by first | rfl | rw [hw3], ⟨hs.1⟩, ⟨HG.out.trans hs.2⟩⟩
            case measure =>
              rw [hw3]
              simp only [intOf, Int.toNat_natCast]
              exact Nat.sub_lt_sub_left hklt (Nat.lt_succ_self k)
          · have hdk : decide ((k : Int) < (f.length : Int)) = false := decide_eq_false (by omega)
            obtain ⟨hstE, hlvE, hRE, hlt3, hBE⟩ := HAft.out wr HG.out
            have HSt := Aside0.mk hstE
            have HLv := Aside0.mk hlvE
            have HR := Aside0.mk hRE
            have HLt3 := Aside0.mk hlt3
            have HW := Aside0.mk (HW4.out.trans (hBE.mono HNbw.out))
            have hwi : wrap64 ((i : Int) + 1) = ((i + 1 : Nat) : Int) := w64 (by omega) (by have := HL.out; omega)
            clear HAft HY HG hstE hlvE hRE hlt3 hBE HW4
            by_cases hbr : br = 0
            · subst hbr
              have hok : okno (all lim Q).2.2 := by
                apply Classical.byContradiction
                intro hno
                have h1 := HT.out.2.1
                rw [flt_lost hno] at h1
                exact lost_ne hno h1.symm
              rcases HMode.out with ⟨_, hQ', hgs, hfz⟩ | ⟨hno, _⟩
              rotate_left
              · exact absurd hok hno
              · have HQ' := Aside0.mk hQ'
                have HPb := Aside0.mk (show M.Bytes Q' by rw [hQ']; exact HQ.out.1.append HFb.out)
                have HPl := Aside0.mk (show Q'.length ≤ (i + 1) * 300 by have h1 := HQ.out.2; have h2 := HFl.out; rw [hQ', List.length_append]; omega)
                have HPs := Aside0.mk (show Q'.length ≤ 6300 by have h1 := HPl.out; have h2 := HL.out; omega)
                have HFacts := Aside0.mk (all_facts lim Q' HPb.out)
                have HSize := Aside0.mk (size_all HLim.out.2 HPb.out)
                have HMore := Aside0.mk (show (all lim Q').1 = (all lim Q).1 ++ gs by rw [hQ', hgs]; exact (more_app HQ.out.1 HFb.out hok).1)
                have HCut := Aside0.mk (fun W A c (hC : Kd.C (Kd.int .u8) W A Q'.length Q') hc => cut_c A c Q' lim W hC hc HPb.out (by have := HPs.out; omega) HLim.out)
                rw [← hQ'] at hfz
                have HFz := Aside0.mk hfz
                have HOk := Aside0.mk hok
                obtain ⟨F, hF⟩ : ∃ x, (all lim Q').1 = x := ⟨_, rfl⟩
                obtain ⟨at_, hat⟩ : ∃ x, (all lim Q').2.1 = x := ⟨_, rfl⟩
                obtain ⟨no, hno⟩ : ∃ x, (all lim Q').2.2 = x := ⟨_, rfl⟩
                simp only [hF, hat, hno] at HCut HMore HFacts HSize HFz
                have HF := Aside0.mk hF
                have HAt := Aside0.mk hat
                have HNo := Aside0.mk hno
                have HFlen := Aside0.mk (show F.length = tl + gs.length by rw [HMore.out, List.length_append, HT.out.1])
                have HFl2 := Aside0.mk (show F.length ≤ 6300 by have h1 := HFacts.out.2.2.2.2.2; have h2 := HPs.out; omega)
                have hsub : wrap64 ((F.length : Int) - (tl : Int)) = (gs.length : Int) := by
                  have h1 := HFlen.out
                  have h2 := HFl2.out
                  rw [show (F.length : Int) - (tl : Int) = (gs.length : Int) by omega]
                  exact w64 (by omega) (by omega)
                have hcellE := HCell.out _ HW.out
                have HCfE := Aside0.mk (Kd.C_below HCf.out HW.out)
                have HSzE := Aside0.mk (show (Q.length + f.length) * 1 ≤ 140737488355328 by have h1 := HPs.out; rw [hQ', List.length_append] at h1; omega)
                have HFresh := Aside0.mk (show ∀ k, wr.heap.size ≤ k → some k ≠ bv'.ownBlock from fun k hk e => by have := own_lt HSt.out.2.1 k e.symm; omega)
                clear hQ' hgs hfz hok hF hat hno HMode
                go_wp2_with (at_builtin; refine Kd.R_append_rows (Kd.int .u8) (w0 := wr) nb rfl (.tmp 106) (.tmp 110) 23 5 (.int .u8 0) 1 rfl Try.underlying23 info5 rfl (by decide) (by decide) u7 Q f _ _ _ (fun k => some k ≠ bv'.ownBlock) (fun _ => False) rfl rfl HR.out HCfE.out (fun _ _ h => h) (fun _ h => h.elim) HFresh.out (Below.refl _ _) HSt.out.2.2 HSzE.out ?_; intro v1 w5 ho hbw hg _; rw [← HQ'.out] at ho; obtain ⟨A9, c9, rfl, hc9, hC9⟩ := Kd.R_reads ho; have HAA := Aside0.mk (after_all HSt.out HLv.out HR.out HLt3.out hg); have HR5 := Aside0.mk ho; have HC9 := Aside0.mk hC9; have Hc9 := Aside0.mk hc9; have HW5 := Aside0.mk (HW.out.trans (hbw.mono HNbw.out)); clear ho hbw hg hC9 hc9)
                refine (HCut.out _ _ _ HC9.out Hc9.out).mono ?_
                rintro e w6 ⟨A10, c10, rfl, hC10, hB6⟩
                have HSt6 := Aside0.mk (St_below HAA.out.1 hB6)
                have HLv6 := Aside0.mk (Kd.C_below (Kd.R_reads' HAA.out.2).2.2 hB6)
                have HR6 := Aside0.mk (Kd.R_below HR5.out hB6)
                have HC10 := Aside0.mk hC10
                have HC96 := Aside0.mk (Kd.C_below HC9.out hB6)
                have HW6 := Aside0.mk (below_step HW5.out hB6)
                clear hC10 hB6 HAA HR5 HC9 HW5 HCut HSt HLv HR HLt3 HW hcellE HCfE HSzE HFresh HCell HFl HFb HCf HQ HQ'
                go_wp2_with fail
                have HGl := Aside0.mk (show gs.length ≤ 6300 from Nat.le_trans (Nat.le_trans (Nat.le_add_left _ _) (Nat.le_of_eq HFlen.out.symm)) HFl2.out)
                go_loopw [10, 19] (fun v10 v19 wq => ∃ (k n : Nat) (s : Int), k ≤ gs.length ∧ v19 = .int .i64 (k : Int) ∧ v10 = .int .i64 s ∧ Aside0 (s = tt + size (gs.take k)) ∧ wq = w6.drewN n) (fun _ v19 _ => gs.length - (intOf v19).toNat)
                case atStart => exact ⟨0, 0, tt, Nat.zero_le _, rfl, rfl, ⟨by simp [size]⟩, rfl⟩
                case round =>
                  obtain ⟨k, n, s, hk, rfl, rfl, HS, rfl⟩ := hrel
                  by_cases hkl : k < gs.length
                  · have hdk2 : decide ((k : Int) < (gs.length : Int)) = true := decide_eq_true (Int.ofNat_lt.2 hkl)
                    obtain ⟨m, hm⟩ : ∃ m : Nat, tl + k = m := ⟨_, rfl⟩
                    obtain ⟨hrd, hmF⟩ := cmp_rd HMore.out HT.out.1 hm hkl
                    obtain ⟨ad3, A11, c11, rfl, hcell3, _, hC3⟩ := at_L1 HLv6.out (k : Int) (Int.natCast_nonneg _) (Int.ofNat_lt.2 hkl)
                    obtain ⟨ad5, A12, c12, rfl, hcell5, _, hC5⟩ := at_L1 HC10.out (m : Int) (Int.natCast_nonneg _) (Int.ofNat_lt.2 hmF)
                    rw [Int.toNat_natCast] at hcell3 hcell5
                    rw [hrd] at hcell5 hC5
                    have HTake := Aside0.mk (take_at hkl)
                    obtain ⟨g, hg⟩ : ∃ g, rd_L1 gs (k : Int) = g := ⟨_, rfl⟩
                    rw [hg] at hcell3 hC3 hcell5 hC5 HTake
                    have hcd : ∀ n, (w6.drewN n).cell? (ad3.add k) = some (.slice A11 g.length c11) := fun n => hcell3
                    have hcd5 : ∀ n, (w6.drewN n).cell? (ad5.add m) = some (.slice A12 g.length c12) := fun n => hcell5
                    have hcv := fun n => Kd.C_string (P := Try.prog) (A := A11) (c := c11) Try.underlying23 Try.underlying5 Try.underlying9 (Kd.C_drewN hC3 n)
                    have hcv5 := fun n => Kd.C_string (P := Try.prog) (A := A12) (c := c12) Try.underlying23 Try.underlying5 Try.underlying9 (Kd.C_drewN hC5 n)
                    have hadd := cmp_add HFlen.out hm hkl HFl2.out (Nat.le_refl _)
                    have hmF' : (m : Int) < (F.length : Int) := Int.ofNat_lt.2 hmF
                    have hdm : decide ((m : Int) < (F.length : Int)) = true := decide_eq_true hmF'
                    obtain ⟨hsum, hsn⟩ := cmp_sum HMore.out HT.out.2.2 HS.out HTake.out (Int.le_trans HSize.out.2 (Int.le_refl _)) HPs.out
                    have HSn := Aside0.mk hsn
                    have hw3 := suc_small hkl (Nat.le_trans HGl.out (by decide))
                    clear hcell3 hcell5 hC3 hC5 hg hm hrd HTake hmF' hsn
                    go_wp2_with fail
                    go_quiet (fail)
                    go_wp2_with fail
                    go_roundw
                    case rel => exact ⟨k + 1, _, s + (g.length : Int), hkl, by first | rfl | rw [hw3], by first | rfl | rw [hsum], HSn, rfl⟩
                    case measure =>
                      rw [hw3]
                      simp only [intOf, Int.toNat_natCast]
                      exact Nat.sub_lt_sub_left hkl (Nat.lt_succ_self k)
                  · have hdk2 : decide ((k : Int) < (gs.length : Int)) = false := decide_eq_false (fun h => hkl (Int.ofNat_lt.1 h))
                    have HSF := Aside0.mk (sum_all HMore.out HT.out.2.2 HS.out (Nat.le_antisymm hk (Nat.le_of_not_lt hkl)))
                    clear HS HLv6 HC10
                    by_cases hok : okno no
                    · obtain ⟨hn3, hn4⟩ := ok_ne hok
                      obtain rfl : fz = 0 := by rw [HFz.out, flt_ok hok]
                      obtain ⟨nd, nh, hsub2, hFa, hBu, hNe, hRe, hTo⟩ := ok_tail (s := s) (A := A9) (c := c9) HSt6.out (by rw [HNo.out]; exact hok) HPb.out HPs.out HLim.out (by rw [HF.out]; exact HSF.out) HAt.out Hc9.out
                      have HFa := Aside0.mk hFa
                      have HBu := Aside0.mk hBu
                      have HNe := Aside0.mk hNe
                      have HRe := Aside0.mk hRe
                      have HTo := Aside0.mk hTo
                      have HTT := Aside0.mk (show F.length = (all lim Q').1.length ∧ (0 : Int) = flt (all lim Q').2.2 ∧ s = size (all lim Q').1 from ⟨by rw [HF.out], by rw [HNo.out, flt_ok hok], by rw [HF.out]; exact HSF.out⟩)
                      clear hok hFa hBu hNe hRe hTo
                      go_wp2_with (first | (go_at_call 30; refine (HFa.out _ (pw_below_drewN (Below.refl _ _) _)).mono ?_; rintro e w8 ⟨rfl, rfl⟩) | (go_at_call 29; refine (HBu.out _ (pw_below_drewN (Below.refl _ _) _)).mono ?_; rintro e w9 ⟨rfl, rfl⟩) | (go_at_call 31; refine (HNe.out _ (pw_below_drewN (Below.refl _ _) _)).mono ?_; rintro e w10 ⟨rfl, ⟨nq, rfl⟩⟩) | (go_at_call 50; refine (HRe.out _ (Kd.C_drewN HC96.out _)).mono ?_; rintro e w11 ⟨rfl, hB11⟩; have HB11 := Aside0.mk (below_step (pw_below_drewN (Below.refl w6.heap.size w6) _) hB11); clear hB11) | (go_at_call 32; refine (HTo.out _ HB11.out).mono ?_; rintro e w12 ⟨rfl, rfl⟩))
                      go_roundw
                      case rel =>
                        exact ⟨i + 1, Q', _, F.length, 0, s, hlt, rfl, rfl, rfl, by first | rfl | rw [hwi], HTT, ⟨HPb.out, HPl.out⟩, ⟨St_below HSt6.out HB11.out⟩, ⟨Kd.R_below HR6.out HB11.out⟩, ⟨below_step HW6.out HB11.out⟩⟩
                      case measure =>
                        rw [hwi]
                        simp only [intOf, Int.toNat_natCast]
                        exact Nat.sub_lt_sub_left hlt (Nat.lt_succ_self i)
                    · obtain ⟨hBu, hNe⟩ := lost_tail HSt6.out (by rw [HNo.out]; exact hok)
                      obtain rfl : fz = no := by rw [HFz.out, flt_lost hok]
                      have HBu := Aside0.mk hBu
                      have HNe := Aside0.mk hNe
                      have HTT := Aside0.mk (show F.length = (all lim Q').1.length ∧ fz = flt (all lim Q').2.2 ∧ s = size (all lim Q').1 from ⟨by rw [HF.out], by rw [HNo.out, flt_lost hok], by rw [HF.out]; exact HSF.out⟩)
                      have h34 := lost_34 hok HFacts.out.2.2.1
                      clear hok hBu hNe
                      rcases h34 with rfl | rfl
                      · go_wp2_with (first | (go_at_call 29; refine (HBu.out _ (pw_below_drewN (Below.refl _ _) _)).mono ?_; rintro e w9 ⟨rfl, rfl⟩) | (go_at_call 31; refine (HNe.out _ (pw_below_drewN (Below.refl _ _) _)).mono ?_; rintro e w10 ⟨rfl, ⟨nq, rfl⟩⟩))
                        go_roundw
                        case rel =>
                          exact ⟨i + 1, Q', _, F.length, 3, s, hlt, rfl, rfl, rfl, by first | rfl | rw [hwi], HTT, ⟨HPb.out, HPl.out⟩, ⟨St_below HSt6.out (pw_below_drewN (Below.refl _ _) _)⟩, ⟨Kd.R_below HR6.out (pw_below_drewN (Below.refl _ _) _)⟩, ⟨pw_below_drewN HW6.out _⟩⟩
                        case measure =>
                          rw [hwi]
                          simp only [intOf, Int.toNat_natCast]
                          exact Nat.sub_lt_sub_left hlt (Nat.lt_succ_self i)
                      · go_wp2_with (first | (go_at_call 29; refine (HBu.out _ (pw_below_drewN (Below.refl _ _) _)).mono ?_; rintro e w9 ⟨rfl, rfl⟩) | (go_at_call 31; refine (HNe.out _ (pw_below_drewN (Below.refl _ _) _)).mono ?_; rintro e w10 ⟨rfl, ⟨nq, rfl⟩⟩))
                        go_roundw
                        case rel =>
                          exact ⟨i + 1, Q', _, F.length, 4, s, hlt, rfl, rfl, rfl, by first | rfl | rw [hwi], HTT, ⟨HPb.out, HPl.out⟩, ⟨St_below HSt6.out (pw_below_drewN (Below.refl _ _) _)⟩, ⟨Kd.R_below HR6.out (pw_below_drewN (Below.refl _ _) _)⟩, ⟨pw_below_drewN HW6.out _⟩⟩
                        case measure =>
                          rw [hwi]
                          simp only [intOf, Int.toNat_natCast]
                          exact Nat.sub_lt_sub_left hlt (Nat.lt_succ_self i)
            · have hbne : (br != 0) = true := by simpa using hbr
              have hno : ¬ okno (all lim Q).2.2 := fun h => hbr (by rw [HT.out.2.1, flt_ok h])
              rcases HMode.out with ⟨h, _⟩ | ⟨_, rfl, rfl, rfl⟩
              · exact absurd h hno
              · have hst := HSt.out.1
                have hrow := HSt.out.2.1
                rw [hold_lost hno] at hrow
                obtain ⟨Ab, cb, rfl, hcb, hCb⟩ := Kd.R_reads (Kd.R_of_own (h1 := fun _ => rfl) (ok := fun _ => True) hrow (fun _ _ => trivial))
                have HFa := Aside0.mk (fault_c a _ _ lim _ wr hst)
                rw [← HT.out.2.1] at HFa
                have HBu := Aside0.mk (buffered_c a Ab 0 cb _ lim _ wr hst)
                have HNe := Aside0.mk (need_c a Ab [] cb _ lim _ wr hst hCb hcb (fun x hx => absurd hx List.not_mem_nil) (Nat.zero_le _))
                rw [show need [] = 0 from if_pos rfl] at HNe
                clear hst hrow hcb hCb HMode hbr hno
                go_wp2_with (first | (go_at_call 30; refine HFa.out.mono ?_; rintro e w5 ⟨rfl, rfl⟩) | (go_at_call 29; refine HBu.out.mono ?_; rintro e w6 ⟨rfl, rfl⟩) | (go_at_call 31; refine HNe.out.mono ?_; rintro e w7 ⟨rfl, ⟨nd, rfl⟩⟩))
                go_roundw
                case rel =>
                  exact ⟨i + 1, Q', _, tl, br, tt, hlt, rfl, rfl, rfl, by first | rfl | rw [hwi], HT, ⟨HQ.out.1, by have := HQ.out.2; omega⟩, ⟨St_below HSt.out (pw_below_drewN (Below.refl _ _) _)⟩, ⟨Kd.R_below HR.out (pw_below_drewN (Below.refl _ _) _)⟩, ⟨pw_below_drewN HW.out _⟩⟩
                case measure =>
                  rw [hwi]
                  simp only [intOf, Int.toNat_natCast]
                  exact Nat.sub_lt_sub_left hlt (Nat.lt_succ_self i)
    · have hdi : decide ((i : Int) < (ls.length : Int)) = false := decide_eq_false (by omega)
      go_wp2_with fail
      go_ret
      exact ⟨rfl, HW.out⟩

theorem feeds_walk (lim : Int) (A : Option Addr) (c : Nat) (ls : List (List Int)) (w : World) (hC : Kd.C (Kd.slice 5 (Kd.int .u8)) w A ls.length ls) (hb : ∀ f ∈ ls, M.Bytes f) :
    Calls Try.prog 14 #[.int .i64 lim, .slice A ls.length c] w fun e w' => e = .returned (.bool true) ∧ Below w.heap.size w w' := by
  by_cases h : ls.length > 20
  · exact feeds_long lim A ls.length c w h
  · by_cases hlim : 0 ≤ lim ∧ lim ≤ 4096
    · exact feeds_ok lim A c ls w hC hb h hlim
    · exact feeds_bad lim A ls.length c w h hlim

end Go.Proofs.Ytmemmhalcieelaa.F
