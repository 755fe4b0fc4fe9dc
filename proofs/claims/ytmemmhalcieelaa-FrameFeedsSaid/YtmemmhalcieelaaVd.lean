/-
flangeref01.Read: its contract at M.V.
-/
import Derived.Test.YtmemmhalcieelaaVc
import Derived.IntWalk
namespace Go.Proofs.Ytmemmhalcieelaa.V
open Go.RowKit Go.Proofs.YtmemmhalcieelaaW.PrintWords Go.Proofs.YtmemmhalcieelaaW.PrintLast Go.Proofs.YtmemmhalcieelaaW.PrintMore

def refreadT : Bool × List (List Nat × List Nat) := (true, [([], []), ([0], [0]), ([1], [1]), ([], []), ([], []), ([4], [4]), ([3, 5], [3, 5]), ([6], [6]), ([2, 7], [2, 7])])
def refreadB : List Nat := [0, 1, 3, 0, 0, 16, 56, 120, 255]
theorem refreadTab : rtab .any (opsOf Try.f38 11) = refreadT := by kernel_rfl
theorem refreadBits : waitsOk refreadT.2 refreadB = true := by kernel_rfl

set_option maxHeartbeats 2000000 in
set_option maxRecDepth 100000 in
theorem refread_c (A0 : Option Addr) (c0 : Nat) (l : List Int) (w : World) (hr : Kd.C (Kd.int .u8) w A0 l.length l) (hc : l.length ≤ c0) (hb : M.Bytes l) (hl : l.length ≤ 140737488351232) :
    Calls Try.prog 38 #[.slice A0 l.length c0] w fun e w' => e = .returned (.tuple #[.int .u64 (M.V l).1, .int .i64 (M.V l).2.1, .int .i64 (M.V l).2.2]) ∧ Below w.heap.size w w' := by
  have HR := Aside0.mk hr
  clear hr
  go_enter Try.func38, Try.ntmps38
  go_wp2
  go_loopw [5, 6, 7] (fun v5 v6 v7 wr => ∃ k : Nat, k ≤ l.length ∧ k ≤ 9 ∧ v5 = .int .u64 (M.valOf (l.take k)) ∧ v6 = .int .u64 (M.pw k) ∧ v7 = .int .i64 k ∧ M.Goes l k ∧ Aside0 (Below w.heap.size w wr)) (fun _ _ i _ => 10 - (intOf i).toNat)
  case atStart => exact ⟨0, Nat.zero_le _, by decide, by simp [M.valOf], by simp [M.pw], rfl, fun j hj => absurd hj (Nat.not_lt_zero j), ⟨Below.refl _ _⟩⟩
  case round =>
    obtain ⟨k, hk, h9, rfl, rfl, rfl, hg, hB⟩ := hrel
    have hk10 : decide ((k : Int) < 10) = true := decide_eq_true (by omega)
    by_cases hlt : k < l.length
    · obtain ⟨ad, rfl, hcell0⟩ := Kd.at_int HR.out (k : Int) (by omega) (by omega)
      have hcell := (hB.out.cell (World.block_lt_of_cell? w _ hcell0)).trans hcell0
      rw [Int.toNat_natCast] at hcell
      clear hcell0
      have hk9 : decide ((k : Int) < l.length) = true := decide_eq_true (by omega)
      by_cases e9 : k = 9 ∧ rd l (k : Int) ≠ 1
      · obtain ⟨e9, hne⟩ := e9
        have HV := Aside0.mk (M.V_tenth hb (by omega) (by rw [← e9]; exact hg) (by rw [e9] at hne; exact hne))
        have hk11 : ((k : Int) == 9) = true := beq_iff_eq.mpr (by omega)
        have hne' : (rd l (k : Int) != 1) = true := by simpa using hne
        clear e9 hne
        go_wp2
        go_ret3
        exact ⟨by rw [HV.out]; rfl, hB.out⟩
      · have h1 : k = 9 → rd l (k : Int) = 1 := fun e => by
          by_cases z : rd l (k : Int) = 1
          · exact z
          · exact absurd ⟨e, z⟩ e9
        have Hacc := Aside0.mk (M.acc_step hb hlt h9 h1)
        have hbd := hb.at k hlt
        have hbd0 := hbd.1
        obtain ⟨v, Hv⟩ : ∃ v, Aside0 (M.valOf (l.take (k + 1)) = v) := ⟨_, ⟨rfl⟩⟩
        have hacc : IntKind.u64.wrap (M.valOf (l.take k) + IntKind.u64.wrap (rd l (k : Int) % 128 * M.pw k)) = v := Hacc.out.trans Hv.out
        have hne' : (rd l (k : Int) != 1) = false ∨ ((k : Int) == 9) = false := by
          by_cases z : k = 9
          · exact .inl (by simp [h1 z])
          · exact .inr (beq_eq_false_iff_ne.mpr (by omega))
        have Hh1 := Aside0.mk h1
        clear h1 hbd Hacc e9
        by_cases c : rd l (k : Int) < 128
        · have hcc : decide (rd l (k : Int) < 128) = true := decide_eq_true c
          have HVl := Aside0.mk (M.V_last hb hlt h9 hg Hh1.out c)
          rw [Hv.out] at HVl
          have hvb := M.valOf_bd (l.take (k + 1))
          have hvlt : v < 18446744073709551616 := by
            rw [← Hv.out]
            have := M.acc_lt hb hlt h9 Hh1.out
            omega
          have hv0 : 0 ≤ v := by rw [← Hv.out]; exact hvb.1
          have HE := Aside0.mk (M.str_eq (M.Bytes.E hv0 hvlt) (hb.take (k + 1)))
          clear hvb
          have hcut := cut_take (some ad) c0 (k + 1) l hlt hc
          rw [show (((k + 1 : Nat)) : Int) = (k : Int) + 1 from rfl] at hcut
          have HS := Aside0.mk (C_take (k + 1) HR.out hlt)
          have hne2 : (((k : Int) == 9) = true ∧ (rd l (k : Int) != 1) = false) ∨ ((k : Int) == 9) = false := by
            by_cases z : k = 9
            · exact .inl ⟨beq_iff_eq.mpr (by omega), by simp [Hh1.out z]⟩
            · exact .inr (beq_eq_false_iff_ne.mpr (by omega))
          clear hne' hg c hb
          rcases hne2 with ⟨hn1, hn2⟩ | hn1
          all_goals
            go_wp2
            have HS' := Aside0.mk (Kd.C_drew (Kd.C_below HS.out hB.out))
            have HB1 := Aside0.mk (below_drew1 hB.out)
            refine start_ (n := 9) (S := fun w' => Kd.C (Kd.int .u8) w' (some ad) (k + 1) (l.take (k + 1))) (ds := []) #[false, false, false, false, false, false, false, false, false] (by kernel_rfl) rfl rfl HS'.out (fun hHeld0 => ?_)
            refine with_tabW refreadTab refreadBits (fun HT_ HW_ => ?_)
            have hHeld := Aside0.mk hHeld0
            clear hHeld0
            generalize wr.drew = w18 at HB1 HS' hHeld ⊢
            have hw1 : IntKind.i64.wrap ((k : Int) + 1) = (k : Int) + 1 := IntWalk.i64_in _ (by omega)
            refine pure_ (i := 0) (N := some 44) (v := ?_) (a' := ?_) #[true, false, false, false, false, false, false, false, false] rfl rfl (any_of HT_.out (by kernel_rfl)) (fun _ _ _ h => h) (Or.inl ⟨by rfl, ?_⟩) ?_ ?_
            rotate_left
            · intro w'
              go_simp
              with_reducible rfl
            rotate_left
            · simp only [Act.put, List.setIfInBounds_toArray, List.set_cons_zero, List.set_cons_succ]
              rfl
            refine pure_ (i := 3) (N := some 47) (v := ?_) (a' := ?_) #[true, false, false, true, false, false, false, false, false] rfl rfl (any_of HT_.out (by kernel_rfl)) (fun _ _ _ h => h) (Or.inl ⟨by rfl, ?_⟩) ?_ ?_
            rotate_left
            · intro w'
              go_simp
              with_reducible rfl
            rotate_left
            · simp only [Act.put, List.setIfInBounds_toArray, List.set_cons_zero, List.set_cons_succ]
              rfl
            refine pure_ (i := 4) (N := some 48) (v := ?_) (a' := ?_) #[true, false, false, true, true, false, false, false, false] rfl rfl (any_of HT_.out (by kernel_rfl)) (fun _ _ _ h => h) (Or.inl ⟨by rfl, ?_⟩) ?_ ?_
            rotate_left
            · intro w'
              go_simp
              with_reducible rfl
            rotate_left
            · simp only [Act.put, List.setIfInBounds_toArray, List.set_cons_zero, List.set_cons_succ]
              rfl
            refine pure_ (i := 5) (N := some 49) (v := ?_) (a' := ?_) #[true, false, false, true, true, true, false, false, false] rfl rfl (any_of HT_.out (by kernel_rfl)) (fun _ _ _ h => h) (Or.inl ⟨by rfl, ?_⟩) ?_ ?_
            rotate_left
            · intro w'
              go_simp
              with_reducible rfl
            rotate_left
            · simp only [Act.put, List.setIfInBounds_toArray, List.set_cons_zero, List.set_cons_succ]
              rfl
            refine pure_ (i := 6) (N := some 50) (v := ?_) (a' := ?_) #[true, false, false, true, true, true, true, false, false] rfl rfl (any_of HT_.out (by kernel_rfl)) (fun _ _ _ h => h) (Or.inl ⟨by rfl, ?_⟩) ?_ ?_
            rotate_left
            · intro w'
              go_simp
              with_reducible rfl
            rotate_left
            · simp only [Act.put, List.setIfInBounds_toArray, List.set_cons_zero, List.set_cons_succ]
              rfl
            refine take_ (i := 7) (N := some 51) (v := ?_) (a' := ?_) #[true, false, false, true, true, true, true, true, false] rfl rfl (take_ofW HT_.out HW_.out (by kernel_rfl)) (fun _ _ _ h => h) (Or.inl ⟨by rfl, ?_⟩) hHeld.out ?_ ?_
            rotate_left
            · intro w' hw'
              have hcv := Kd.C_string (P := Try.prog) (A := some ad) (c := c0) Try.underlying23 Try.underlying5 Try.underlying9 hw'
              go_simp
              with_reducible rfl
            rotate_left
            · simp only [Act.put, List.setIfInBounds_toArray, List.set_cons_zero, List.set_cons_succ]
              rfl
            refine one_ (i := 1) (N := some 45) #[true, true, false, true, true, true, true, true, false] rfl rfl (one_of HT_.out (by kernel_rfl)) (by decide) (fun K hK => ?_)
            refine goes_ Try.func35 (by kernel_rfl) rfl #[.int .u64 v] (by rfl) rfl rfl (by (try simp only [List.map_toArray, List.map_cons, List.map_nil]); first | done | rfl) ?_
            refine (bytes_c v _ hv0 hvlt).mono ?_
            rintro e w20 ⟨v45, rfl, ho0, hb20⟩
            refine ⟨_, rfl, ?_⟩
            have HO := Aside0.mk ho0
            have HB2 := Aside0.mk (below_step HB1.out hb20)
            have HS2 := Aside0.mk (Kd.C_below hHeld.out hb20)
            clear ho0 hb20
            refine hK.out _ _ HS2.out (fun hHeld2 => ?_)
            clear hK K hHeld2
            refine norm_ (a' := ?_) ?_ ?_
            rotate_left
            · show Act.put _ (some 45) _ = _
              simp only [Act.put, List.setIfInBounds_toArray, List.set_cons_zero, List.set_cons_succ]
              rfl
            refine one_ (i := 2) (N := some 46) #[true, true, true, true, true, true, true, true, false] rfl rfl (one_of HT_.out (by kernel_rfl)) (by decide) (fun K hK => ?_)
            have hcv21 := own_string (P := Try.prog) Try.underlying23 Try.underlying5 Try.underlying9 (Kd.own_of_R HO.out)
            refine value_ (w1 := ?_) (v := ?_) (by rfl) rfl ?_ ?_
            rotate_left 2
            · go_simp
              constructor
              · rfl
              · rfl
            clear hcv21
            refine hK.out _ _ HS2.out (fun hHeld3 => ?_)
            clear hK K hHeld3
            refine norm_ (a' := ?_) ?_ ?_
            rotate_left
            · show Act.put _ (some 46) _ = _
              simp only [Act.put, List.setIfInBounds_toArray, List.set_cons_zero, List.set_cons_succ]
              rfl
            refine pure_ (i := 8) (N := some 52) (v := ?_) (a' := ?_) #[true, true, true, true, true, true, true, true, true] rfl rfl (any_of HT_.out (by kernel_rfl)) (fun _ _ _ h => h) (Or.inl ⟨by rfl, ?_⟩) ?_ ?_
            rotate_left
            · intro w'
              go_simp
              with_reducible rfl
            rotate_left
            · simp only [Act.put, List.setIfInBounds_toArray, List.set_cons_zero, List.set_cons_succ]
              rfl
            refine done_ (done_of HT_.out (by kernel_rfl)) ?_
            by_cases hE : M.E v = l.take (k + 1)
            · have hs : ((strOfNums (M.E v)).toList == (strOfNums (l.take (k + 1))).toList) = true := by rw [HE.out]; simpa using hE
              have hs2 : (!((strOfNums (M.E v)).toList == (strOfNums (l.take (k + 1))).toList)) = false := by rw [hs]; rfl
              have HV := Aside0.mk (HVl.out.1 hE)
              clear hE
              go_wp2
              · rename_i hx
                exact absurd (hx.symm.trans hs2) (by decide)
              · go_ret3
                exact ⟨by rw [HV.out]; rfl, HB2.out⟩
            · have hs : ((strOfNums (M.E v)).toList == (strOfNums (l.take (k + 1))).toList) = false := by rw [HE.out]; simpa using hE
              have hs2 : (!((strOfNums (M.E v)).toList == (strOfNums (l.take (k + 1))).toList)) = true := by rw [hs]; rfl
              have HV := Aside0.mk (HVl.out.2 hE)
              clear hE
              go_wp2
              · go_ret3
                exact ⟨by rw [HV.out]; rfl, HB2.out⟩
              · rename_i hx
                exact absurd (hx.symm.trans hs2) (by decide)
        · have hcc : decide (rd l (k : Int) < 128) = false := decide_eq_false c
          have hk9' : k < 9 := by
            by_cases z : k = 9
            · have := Hh1.out z; omega
            · omega
          have hby := M.by_step hk9'
          have hk11 : ((k : Int) == 9) = false := beq_eq_false_iff_ne.mpr (by omega)
          have Hg := Aside0.mk (hg.succ (by omega))
          clear hg c hne'
          go_wp2
          go_roundw
          case rel => exact ⟨k + 1, by omega, by omega, by rw [Hv.out], rfl, by go_num, Hg.out, hB⟩
          case measure => simp [intOf]; omega
    · obtain rfl : k = l.length := by omega
      have HV := Aside0.mk (M.V_short hb h9 hg)
      have hk9 : decide ((l.length : Int) < (l.length : Int)) = false := decide_eq_false (by omega)
      clear hlt
      go_wp2
      go_ret3
      exact ⟨by rw [HV.out]; rfl, hB.out⟩

end Go.Proofs.Ytmemmhalcieelaa.V
