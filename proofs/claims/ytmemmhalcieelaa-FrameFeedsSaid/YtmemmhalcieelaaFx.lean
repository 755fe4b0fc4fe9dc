/-
The law FrameChunks: frames, laid, come out of any chunks of their bytes.
-/
import Derived.Test.YtmemmhalcieelaaFy
import Derived.Test.YtmemmhalcieelaaFe
namespace Go.Proofs.Ytmemmhalcieelaa.F
open Go.RowKit Go.Proofs.YtmemmhalcieelaaW.PrintWords Go.Proofs.YtmemmhalcieelaaW.PrintLast Go.Proofs.YtmemmhalcieelaaW.PrintMore Go.Proofs.Ytmemmhalcieelaa.V
attribute [local go_sem] max2_int min2_int max_two min_two

theorem rd_at {fs : List (List Int)} {i : Nat} (h : i < fs.length) : rd_L1 fs (i : Int) = fs[i] := by
  unfold rd_L1
  rw [Int.toNat_natCast, List.getD_eq_getElem?_getD, List.getElem?_eq_getElem h]
  rfl
theorem take_at {fs : List (List Int)} {i : Nat} (h : i < fs.length) : fs.take (i + 1) = fs.take i ++ [rd_L1 fs (i : Int)] := by
  rw [rd_at h, List.take_append_getElem h]

theorem meas1 {q q' i m n : Nat} (h : q' = q - n) (hn : n ≤ q) (hq : 0 < q) (h2 : n = q ∨ i < m) : q' + (m - (i + 1)) < q + (m - i) := by omega
theorem le_small {i m : Nat} (h : i ≤ m) (h1 : m ≤ 50) : (i : Int) + 1 ≤ 10000000 := by omega
theorem own_apart {w w1 : World} {nb : Nat} {bv out : Value} {n : Nat} {xs : List Value} {ok : Nat → Prop} {fs : List (List Int)} (h : w.ownsRow nb 5 1 bv n xs) (ho : Kd.R (Kd.slice 5 (Kd.int .u8)) 23 w nb ok out fs) (hg : w.grownBy w1 out.ownBlock) : w1.ownsRow nb 5 1 bv n xs := by
  obtain ⟨inner, hown⟩ := Kd.R_own ho
  refine own_move h (fun k hk => hg.block k (own_lt h k hk) (fun e => ?_))
  obtain ⟨c1, hc1⟩ := own_typed hown k e.symm
  obtain ⟨c2, hc2⟩ := own_typed h k hk
  rw [hc1] at hc2
  cases hc2

def sliceLen : Value → Nat
  | .slice _ n _ => n
  | _ => 0

set_option maxHeartbeats 4000000 in
theorem chunks_ok (A : Option Addr) (c : Nat) (ls : List (List Int)) (A' : Option Addr) (c' : Nat) (cs : List Int) (w : World) (hC : Kd.C (Kd.slice 5 (Kd.int .u8)) w A ls.length ls) (hC' : Kd.C (Kd.int .u8) w A' cs.length cs) (hb : ∀ f ∈ ls, M.Bytes f) (hb' : M.Bytes cs)
    (h : ¬ ls.length > 10) (h' : ¬ cs.length > 50) :
    Calls Try.prog 13 #[.slice A ls.length c, .slice A' cs.length c'] w fun e w' => e = .returned (.bool true) ∧ Below w.heap.size w w' := by
  have hd1 : decide ((10 : Int) < (ls.length : Int)) = false := decide_eq_false (by omega)
  have hd2 : decide ((50 : Int) < (cs.length : Int)) = false := decide_eq_false (by omega)
  have HC := Aside0.mk hC
  have HC' := Aside0.mk hC'
  have HB := Aside0.mk hb
  have HB' := Aside0.mk hb'
  have HL := Aside0.mk (show ls.length ≤ 10 by omega)
  have HL' := Aside0.mk (show cs.length ≤ 50 by omega)
  clear hC hC' hb hb' h h'
  go_enter Try.func13, Try.ntmps13
  go_wp2_with (go_at_call 27; refine (awake_c _).mono ?_; rintro e w1 ⟨rfl, hB⟩; have HW1 := Aside0.mk hB; clear hB)
  go_loopw [5, 6] (fun v5 v6 wr => ∃ i : Nat, i ≤ ls.length ∧ v6 = .int .i64 (i : Int) ∧ Aside0 (∀ f ∈ ls.take i, f.length ≤ 300) ∧ Aside0 (Kd.R (Kd.int .u8) 5 wr w.heap.size (fun _ => True) v5 (flat (ls.take i))) ∧ Aside0 (Below w.heap.size w wr)) (fun _ v6 _ => ls.length - (intOf v6).toNat)
  case atStart => exact ⟨0, Nat.zero_le _, rfl, ⟨by simp⟩, ⟨Kd.R_nil _ _ _ _ _⟩, ⟨HW1.out⟩⟩
  case round =>
    clear HW1
    obtain ⟨i, hi, rfl, HS, HR, HW⟩ := hrel
    by_cases hlt : i < ls.length
    · have hdi : decide ((i : Int) < (ls.length : Int)) = true := decide_eq_true (by omega)
      obtain ⟨ad, A4, c4, rfl, hcell, hc4, hC4⟩ := at_L1 (Kd.C_below HC.out HW.out) (i : Int) (by omega) (by omega)
      rw [Int.toNat_natCast] at hcell
      obtain ⟨f, hf⟩ : ∃ f, rd_L1 ls (i : Int) = f := ⟨_, rfl⟩
      have HTk := Aside0.mk (take_at hlt)
      have HMem := Aside0.mk (show f ∈ ls by rw [← hf, rd_at hlt]; exact List.getElem_mem hlt)
      rw [hf] at hcell hc4 hC4 HTk
      clear hf
      have HCf := Aside0.mk hC4
      have HLi := Aside0.mk hlt
      have HI := Aside0.mk hi
      clear hC4 hi
      by_cases hbig : f.length > 300
      · have hd3 : decide ((300 : Int) < (f.length : Int)) = true := decide_eq_true (by omega)
        clear hbig
        go_wp2_with fail
        go_ret
        exact ⟨rfl, HW.out⟩
      · have hd3 : decide ((300 : Int) < (f.length : Int)) = false := decide_eq_false (by omega)
        have hw : wrapR 300 f = (M.E f.length ++ f, 0) := by unfold wrapR; rw [if_pos (by decide), if_neg (by omega)]
        have hWr := fun W (hC : Kd.C (Kd.int .u8) W A4 f.length f) => wrap_c A4 c4 f 300 W hC hc4 (by omega)
        rw [hw] at hWr
        have HWr := Aside0.mk hWr
        have HFl := Aside0.mk hbig
        clear hWr hw hbig
        obtain ⟨wb, hwb⟩ : ∃ x, M.E (f.length : Int) ++ f = x := ⟨_, rfl⟩
        simp only [hwb] at HWr
        have HWB := Aside0.mk hwb
        have HBL := Aside0.mk (show (flat (ls.take i)).length + wb.length ≤ 10000 by
          have h1 := flat_len (ls.take i) HS.out
          have h2 := M.E_le (f.length : Int)
          have h3 := HFl.out
          have h4 := HL.out
          have h5 : (ls.take i).length ≤ 10 := by rw [List.length_take]; omega
          rw [← hwb, List.length_append]
          omega)
        clear hwb
        go_wp2_with (first | (go_at_call 34; refine (HWr.out _ HCf.out).mono ?_; rintro e w2 ⟨A5, c5, rfl, _, hC5, hB2⟩; have HC5 := Aside0.mk hC5; have HW2 := Aside0.mk (below_step HW.out hB2); have HR2 := Aside0.mk (Kd.R_below HR.out hB2); clear hC5 hB2) | (at_builtin; refine Kd.R_append_rows (Kd.int .u8) (w0 := w) w.heap.size rfl (.tmp 52) (.tmp 53) 23 5 (.int .u8 0) 1 rfl Try.underlying23 info5 rfl (by decide) (by decide) u5 (flat (ls.take i)) wb _ _ _ (fun _ => True) (fun _ => False) rfl rfl HR2.out HC5.out (fun _ _ h => h) (fun _ h => h.elim) (fun _ _ => trivial) HW2.out HW2.out.size (Nat.le_trans (by rw [Nat.mul_one]; exact HBL.out) (by decide)) ?_; intro v1 w3 ho hbw hg hat; have HR3 := Aside0.mk ho; have HW3 := Aside0.mk hbw; clear ho hbw hg hat))
        have hw3 : wrap64 ((i : Int) + 1) = ((i + 1 : Nat) : Int) := w64 (by have := HL.out; omega) (by have := HL.out; omega)
        go_roundw
        case rel =>
          refine ⟨i + 1, hlt, by first | rfl | rw [hw3], ⟨?_⟩, ⟨?_⟩, HW3⟩
          · rw [HTk.out]
            intro g hg
            rcases List.mem_append.1 hg with hg | hg
            · exact HS.out g hg
            · have := HFl.out
              rw [List.mem_singleton.1 hg]
              omega
          · rw [HTk.out, flat_snoc, HWB.out]
            exact HR3.out
        case measure =>
          first
          | rw [hw3]
          | rw [show ((i : Int) + 1) = ((i + 1 : Nat) : Int) from rfl]
          simp only [intOf, Int.toNat_natCast]
          exact Nat.sub_lt_sub_left hlt (Nat.lt_succ_self i)
    · have hdi : decide ((i : Int) < (ls.length : Int)) = false := decide_eq_false (by omega)
      have hi' : i = ls.length := by omega
      subst hi'
      rw [List.take_length] at HS HR
      obtain ⟨A5, c5, rfl, hc5, hC5⟩ := Kd.R_reads HR.out
      have HAll := Aside0.mk (all_flat ls HB.out HS.out)
      have HBy := Aside0.mk (flat_bytes ls HB.out HS.out)
      have HBl := Aside0.mk (show (flat ls).length ≤ 3100 by have h1 := flat_len ls HS.out; have h2 := HL.out; omega)
      have HF0 := Aside0.mk (show Kd.F (Kd.int .u8) wr (fun k => k < wr.heap.size) A5 (flat ls).length (flat ls) from fun W' hW => C_agree hC5 (fun k hk => hW k hk hk))
      have HC5 := Aside0.mk hc5
      clear HR hC5 hc5 hi
      obtain ⟨B, hBe⟩ : ∃ B, flat ls = B := ⟨_, rfl⟩
      rw [hBe] at HAll HBy HBl HF0 HC5 ⊢
      clear hBe
      go_wp2_with fail
      refine (new_ok 300 _ (by decide)).mono ?_
      rintro e w2 ⟨a, rfl, ha, hst, hB2⟩
      obtain ⟨nb, hnb⟩ : ∃ x, wr.heap.size = x := ⟨_, rfl⟩
      have HA := Aside0.mk ha
      have HSt := Aside0.mk hst
      have HW2 := Aside0.mk (below_step HW.out hB2)
      have HF2 := Aside0.mk (Kd.F_below HF0.out hB2)
      have HNb2 := Aside0.mk hB2.size
      rw [hnb] at HA HF2 HNb2
      have HNbw := Aside0.mk (show w.heap.size ≤ nb from hnb ▸ HW.out.size)
      clear ha hst hB2 HF0
      go_wp2_with fail
      go_loopw [5, 11, 12] (fun v5 v11 v12 wq => ∃ (p q : List Int) (i : Nat) (A6 : Option Addr) (c6 : Nat) (bv : Value), v5 = .slice A6 q.length c6 ∧ v12 = .int .i64 (i : Int) ∧ i ≤ cs.length + 1 ∧ (cs.length < i → q = []) ∧
        Aside0 (B = p ++ q ∧ q.length ≤ c6 ∧ Kd.F (Kd.int .u8) wq (fun k => k < nb) A6 q.length q) ∧
        Aside0 (wq.heap[a]? = some (.cells (stc bv 0 300 (size (all 300 p).1)) 81 (0, 0)) ∧ wq.ownsRow nb 5 1 bv (held' 300 p).length (nums .u8 (held' 300 p)) ∧ nb ≤ wq.heap.size) ∧
        Aside0 (Kd.R (Kd.slice 5 (Kd.int .u8)) 23 wq nb (fun k => some k ≠ bv.ownBlock) v11 (all 300 p).1) ∧ Aside0 (Below w.heap.size w wq))
        (fun v5 _ v12 _ => sliceLen v5 + (cs.length - (intOf v12).toNat))
      case atStart =>
        exact ⟨[], B, 0, A5, c5, .slice none 0 0, rfl, rfl, Nat.zero_le _, fun h => absurd h (Nat.not_lt_zero _), ⟨rfl, HC5.out, HF2.out⟩, ⟨by simpa [all, cut, size] using HSt.out, World.ownsRow_nil _ _ _ _, HNb2.out⟩, ⟨Kd.R_nil _ _ _ _ _⟩, ⟨HW2.out⟩⟩
      case round =>
        clear HW2 HSt HF2 HNb2 HW
        obtain ⟨p, q, i, A6, c6, bv, rfl, rfl, hi, hiq, HQ, HSt, HOut, HW⟩ := hrel
        by_cases hq : q = []
        · subst hq
          have hpB : p = B := by rw [HQ.out.1, List.append_nil]
          have hhe : held' 300 B = [] := by
            unfold held'
            rw [HAll.out]
            simp
          have he1 : (all 300 B).1 = ls := by rw [HAll.out]
          rw [hpB, hhe, he1] at HSt
          rw [hpB, he1] at HOut
          obtain ⟨Ab, cb, rfl, _⟩ := Kd.R_reads (Kd.R_of_own (h1 := fun _ => rfl) (ok := fun _ => True) HSt.out.2.1 (fun _ _ => trivial))
          have HBuf := Aside0.mk (buffered_c a Ab 0 cb 0 300 (size ls) wr HSt.out.1)
          obtain ⟨A9, c9, rfl, _, hC9⟩ := Kd.R_reads HOut.out
          have HC9 := Aside0.mk hC9
          have HL4 := Aside0.mk (Kd.C_below HC.out HW.out)
          have hfs : ls.length ≤ 10 := HL.out
          clear hpB hhe he1 HQ HSt HOut HAll hC9 hi hiq HC HC' HB HB' HL HL' HBy HBl HC5 HA
          go_wp2_with (go_at_call 29; refine HBuf.out.mono ?_; rintro e w5 ⟨rfl, rfl⟩)
          go_loopw [16] (fun v16 wq => ∃ i n : Nat, i ≤ ls.length ∧ v16 = .int .i64 (i : Int) ∧ wq = wr.drewN n) (fun v16 _ => ls.length - (intOf v16).toNat)
          case atStart => exact ⟨0, 0, Nat.zero_le _, rfl, rfl⟩
          case round =>
            obtain ⟨i, n, hi, rfl, rfl⟩ := hrel
            by_cases hlt : i < ls.length
            · have hdi : decide ((i : Int) < (ls.length : Int)) = true := decide_eq_true (by omega)
              obtain ⟨ad, A4, c4, rfl, hcell, _, hC4⟩ := at_L1 HL4.out (i : Int) (by omega) (by omega)
              obtain ⟨ad5, A5, c5, rfl, hcell5, _, hC5⟩ := at_L1 HC9.out (i : Int) (by omega) (by omega)
              rw [Int.toNat_natCast] at hcell hcell5
              obtain ⟨f, hf⟩ : ∃ f, rd_L1 ls (i : Int) = f := ⟨_, rfl⟩
              rw [hf] at hcell hC4 hcell5 hC5
              clear hf
              have hcd : ∀ n, (wr.drewN n).cell? (ad.add i) = some (.slice A4 f.length c4) := fun n => hcell
              have hcd5 : ∀ n, (wr.drewN n).cell? (ad5.add i) = some (.slice A5 f.length c5) := fun n => hcell5
              have hcv := fun n => Kd.C_string (P := Try.prog) (A := A4) (c := c4) Try.underlying23 Try.underlying5 Try.underlying9 (Kd.C_drewN hC4 n)
              have hcv5 := fun n => Kd.C_string (P := Try.prog) (A := A5) (c := c5) Try.underlying23 Try.underlying5 Try.underlying9 (Kd.C_drewN hC5 n)
              have hw3 : wrap64 ((i : Int) + 1) = ((i + 1 : Nat) : Int) := w64 (by omega) (by omega)
              clear hcell hcell5 hC4 hC5
              go_wp2_with fail
              go_quiet (fail)
              go_wp2_with fail
              go_roundw
              case rel => exact ⟨i + 1, _, hlt, (by first | rfl | rw [hw3]), rfl⟩
              case measure =>
                rw [hw3]
                simp only [intOf, Int.toNat_natCast]
                exact Nat.sub_lt_sub_left hlt (Nat.lt_succ_self i)
            · have hdi : decide ((i : Int) < (ls.length : Int)) = false := decide_eq_false (by omega)
              go_wp2_with fail
              go_ret
              exact ⟨rfl, pw_below_drewN HW.out _⟩
        · have hz : decide ((0 : Int) < (q.length : Int)) = true := decide_eq_true (by have := List.length_pos_iff.2 hq; omega)
          have hqp := List.length_pos_iff.2 hq
          have hic : i ≤ cs.length := by
            rcases Nat.lt_or_ge cs.length i with h | h
            · exact absurd (hiq h) hq
            · exact h
          clear hi hiq hq
          go_upto_if 69 with (fail)
          go_cut [13] (fun v13 wc => ∃ n : Nat, n ≤ q.length ∧ v13 = .int .i64 (n : Int) ∧ (n = q.length ∨ i < cs.length) ∧ wr = wc)
          case first =>
            by_cases hlt : i < cs.length
            · have hdi : decide ((i : Int) < (cs.length : Int)) = true := decide_eq_true (by omega)
              obtain ⟨ad9, rfl, hcell9⟩ := Kd.at_int (Kd.C_below HC'.out HW.out) (i : Int) (by omega) (by omega)
              rw [Int.toNat_natCast] at hcell9
              have hx := HB'.out.at i hlt
              obtain ⟨m, hm⟩ : ∃ m : Nat, rd cs (i : Int) = (m : Int) := ⟨(rd cs (i : Int)).toNat, by omega⟩
              rw [hm] at hcell9
              have hwm : wrap64 (m : Int) = (m : Int) := w64 (Int.natCast_nonneg _) (by omega)
              clear hm hx
              by_cases hmq : (m : Int) ≤ (q.length : Int)
              · go_wp2_with fail
                go_meet
                exact ⟨m, by omega, rfl, .inr hlt, rfl⟩
              · go_wp2_with fail
                go_meet
                exact ⟨q.length, Nat.le_refl _, rfl, .inl rfl, rfl⟩
            · have hdi : decide ((i : Int) < (cs.length : Int)) = false := decide_eq_false (by omega)
              go_wp2_with fail
              go_meet
              exact ⟨q.length, Nat.le_refl _, rfl, .inl rfl, rfl⟩
          case rest =>
            obtain ⟨n, hn, rfl, hnq, rfl⟩ := hcut
            have HNq := Aside0.mk hnq
            clear hnq
            obtain ⟨ch, hch⟩ : ∃ x, q.take n = x := ⟨_, rfl⟩
            obtain ⟨q', hq'⟩ : ∃ x, q.drop n = x := ⟨_, rfl⟩
            obtain ⟨i0, hi0, _, hsz1, _⟩ := info_parts info5
            have hcl : ch.length = n := by rw [← hch, List.length_take]; omega
            have hql : q'.length = q.length - n := by rw [← hq', List.length_drop]
            obtain ⟨A7, hA7⟩ : ∃ A7, A7 = (if c6 = ((n : Nat) : Int).toNat then A6 else A6.map (·.add (((n : Nat) : Int).toNat * 1))) := ⟨_, rfl⟩
            obtain ⟨c7, hc7⟩ : ∃ c7, c7 = c6 - ((n : Nat) : Int).toNat := ⟨_, rfl⟩
            have hcut : ∀ W : World, (Instr.slice 23 (.slice A6 q.length c6) none (some (.int .i64 (n : Int))) none).run Try.prog W = .ok (.slice A6 ch.length c6) W := by
              intro W
              rw [hcl]
              exact cut_take A6 c6 n q hn HQ.out.2.1 W
            have hcf : ∀ W : World, (Instr.slice 23 (.slice A6 q.length c6) (some (.int .i64 (n : Int))) none none).run Try.prog W = .ok (.slice A7 q'.length c7) W := by
              intro W
              rw [hA7, hc7, hql]
              exact cut_from 23 5 .i64 Try.underlying23 hi0 1 hsz1 A6 q.length c6 (n : Int) (by omega) (by omega) W
            have HQ7 := Aside0.mk (show ∀ W', Kd.F (Kd.int .u8) W' (fun k => k < nb) A6 q.length q → Kd.F (Kd.int .u8) W' (fun k => k < nb) A7 q'.length q' from fun W' h => by rw [hA7, ← hq']; exact Kd.F_cut h hn HQ.out.2.1)
            have HCh := Aside0.mk (show Kd.C (Kd.int .u8) wr A6 ch.length ch from by rw [← hch]; exact Kd.C_take (Kd.F_now HQ.out.2.2) hn)
            have HPQ := Aside0.mk (show B = (p ++ ch) ++ q' by rw [← hch, ← hq', List.append_assoc, List.take_append_drop]; exact HQ.out.1)
            have HC7 := Aside0.mk (show q'.length ≤ c7 by have := HQ.out.2.1; rw [hc7, hql]; omega)
            have HQL := Aside0.mk (And.intro hql hn)
            clear hch hq' hi0 hsz1 hcl hql hA7 hc7 hn
            have hpb : M.Bytes (p ++ ch ++ q') := by rw [← HPQ.out]; exact HBy.out
            have hp : M.Bytes p := fun x hx => hpb x (List.mem_append_left _ (List.mem_append_left _ hx))
            have hcb : M.Bytes ch := fun x hx => hpb x (List.mem_append_left _ (List.mem_append_right _ hx))
            have hqb : M.Bytes q' := fun x hx => hpb x (List.mem_append_right _ hx)
            have hno0 : (all 300 (p ++ ch ++ q')).2.2 = 0 := by rw [← HPQ.out, HAll.out]
            have hno1 := all_part (hp.append hcb) hqb hno0
            have hno2 := all_part (lim := 300) hp (hcb.append hqb) (by rw [← List.append_assoc]; exact hno0)
            have hpl : p.length + ch.length ≤ 3100 := by
              have h1 := HBl.out
              rw [HPQ.out] at h1
              simp only [List.length_append] at h1
              omega
            have hF := feed_step a nb 300 p ch bv A6 c6 wr (by decide) hp hcb (by omega) hno2 HSt.out.1 HSt.out.2.1 HSt.out.2.2 HA.out HCh.out
            have hfl : flt (all 300 (p ++ ch)).2.2 = 0 := if_pos hno1
            rw [hfl, if_pos hno1] at hF
            have HF := Aside0.mk hF
            have HM := Aside0.mk (more_app hp hcb hno2).1
            have HPL := Aside0.mk hpl
            have HM2 := Aside0.mk (all_facts 300 (p ++ ch) (hp.append hcb))
            clear hpb hp hcb hqb hno0 hno1 hno2 hpl hF hfl
            go_wp2_with fail
            refine HF.out.mono ?_
            rintro e w3 ⟨lv, bv', rfl, hst3, hrow3, hR3, hbk, hk3, hB3⟩
            have hO3 := rows_keep HOut.out HSt.out.1 hk3 hbk
            obtain ⟨A8, c8, rfl, hrr, hokp⟩ := rows_more hO3 hR3 HSt.out.2.2
            have HO3 := Aside0.mk hO3
            have HRR := Aside0.mk hrr
            have HOkp := Aside0.mk hokp
            have HSt3 := Aside0.mk (And.intro hst3 (And.intro hrow3 (Nat.le_trans HSt.out.2.2 hB3.size)))
            have HF3 := Aside0.mk (Kd.F_step HQ.out.2.2 (fun k hk _ => hB3.block k hk))
            have HW3 := Aside0.mk (HW.out.trans (hB3.mono HNbw.out))
            have HSz := Aside0.mk (show ((all 300 p).1.length + (more 300 p ch).length) * 24 ≤ 140737488355328 by
              have h1 := HM.out
              have h2 := congrArg List.length h1
              rw [List.length_append] at h2
              have h3 := HM2.out.2.2.2.2.2
              have h4 := HPL.out
              rw [List.length_append] at h3
              omega)
            clear hst3 hrow3 hR3 hbk hk3 hB3 hO3 hrr hokp HF HOut HSt HM2
            go_wp2_with (at_builtin; refine Kd.R_append_rows (Kd.slice 5 (Kd.int .u8)) (w0 := w3) nb rfl (.tmp 87) (.tmp 88) 40 23 (.slice none 0 0) 24 rfl Try.underlying40 info23 rfl (by decide) (by decide) u11 (all 300 p).1 (more 300 p ch) _ _ _ (fun k => some k ≠ bv'.ownBlock) _ rfl rfl HO3.out HRR.out (fun _ _ h => h) HOkp.out (fun k hk e => absurd (own_lt HSt3.out.2.1 k e.symm) (by omega)) (Below.refl _ _) HSt3.out.2.2 HSz.out ?_; intro v1 w4 ho4 hb4 hg4 hat4; have HO4 := Aside0.mk ho4; have HG4 := Aside0.mk hg4; have HB4 := Aside0.mk hb4; clear ho4 hb4 hg4 hat4)
            have hst4 := blk_grown HSt3.out.1 HG4.out (Kd.R_ne HO3.out HSt3.out.1 (by decide))
            have hrow4 : w4.ownsRow nb 5 1 bv' (held' 300 (p ++ ch)).length (nums .u8 (held' 300 (p ++ ch))) := own_apart HSt3.out.2.1 HO3.out HG4.out
            have hw3 : wrap64 ((i : Int) + 1) = ((i + 1 : Nat) : Int) := w64 (Int.add_nonneg (Int.natCast_nonneg _) (by decide)) (by have h1 := HL'.out; exact le_small hic h1)
            have HO5 := Aside0.mk (show Kd.R (Kd.slice 5 (Kd.int .u8)) 23 w4 nb (fun k => some k ≠ bv'.ownBlock) v1 (all 300 (p ++ ch)).1 from by rw [HM.out]; exact HO4.out)
            go_roundw
            case rel =>
              exact ⟨p ++ ch, q', i + 1, A7, c7, bv', rfl, by first | rfl | rw [hw3], Nat.succ_le_succ hic, (fun h => List.length_eq_zero_iff.1 (by rw [HQL.out.1]; rcases HNq.out with h1 | h1 <;> omega)), ⟨HPQ.out, HC7.out, HQ7.out _ (Kd.F_step HF3.out (fun k hk _ => HB4.out.block k hk))⟩, ⟨hst4, hrow4, Nat.le_trans HSt3.out.2.2 HB4.out.size⟩, HO5, ⟨HW3.out.trans (HB4.out.mono HNbw.out)⟩⟩
            case measure =>
              first
              | rw [hw3]
              | rw [show ((i : Int) + 1) = ((i + 1 : Nat) : Int) from rfl]
              simp only [intOf, Int.toNat_natCast, sliceLen]
              exact meas1 HQL.out.1 HQL.out.2 hqp HNq.out

end Go.Proofs.Ytmemmhalcieelaa.F
