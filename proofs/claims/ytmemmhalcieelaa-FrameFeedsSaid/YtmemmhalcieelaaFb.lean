/-
frame: the iterator over what is whole.
-/
import Derived.Test.YtmemmhalcieelaaFm
import Derived.Test.YtmemmhalcieelaaShelf
import Derived.RangeFuncBox
import Derived.RangeFuncNested
import Derived.RangeFuncBound
import Derived.RangeFuncCalls
import Derived.RangeFuncLeaves
import Derived.Shelf.Abstract
import Derived.Shelf.RegionOpen
import Derived.WalkKit
import Derived.OwnWalkIn
import Derived.TacticsInMore
import Derived.LoopNIn
import Derived.LoopIn
import Derived.Maps.AppendAt
namespace Go.Proofs.Ytmemmhalcieelaa.F
open Go.RowKit Go.Proofs.YtmemmhalcieelaaW.PrintWords Go.Proofs.YtmemmhalcieelaaW.PrintLast Go.Proofs.YtmemmhalcieelaaW.PrintMore Go.Proofs.Ytmemmhalcieelaa.V

attribute [local go_sem] Oper.semAt_some

/-- How many bytes the assembler at a holds, read off the world. -/
def held (a : Nat) (w : World) : Nat := match w.heap[a]? with
  | some (Obj.cells cs _ _) => match cs[0]? with
    | some (Value.slice _ n _) => n
    | _ => 0
  | _ => 0
theorem held_eq {a : Nat} {w : World} {A : Option Addr} {n c : Nat} {f lim tot : Int} (h : w.heap[a]? = some (.cells (stc (.slice A n c) f lim tot) 81 (0, 0))) : held a w = n := by
  simp [held, h, stc]

/-- What a round keeps: every block of cells but the list's and its box. -/
def Kp (A B : World) : Prop := A.heap.size ≤ B.heap.size ∧ (∀ (k : Nat) (c : Array Value) (t : TypeId) (fz : Nat × Nat), A.heap[k]? = some (Obj.cells c t fz) → t ≠ 40 → t ≠ 23 → B.heap[k]? = some (Obj.cells c t fz)) ∧ Env A B

def iterT : Bool × List (List Nat × List Nat) := (true, [([], []), ([], []), ([1], [1]), ([2], [2]), ([3], [3]), ([4], [4]), ([], []), ([], []), ([6, 7], [6, 7]), ([5, 8], [5, 8]), ([9], [9]), ([0, 0, 1, 2, 3, 4, 5, 6, 7, 8, 9, 10], [0]), ([11, 0, 1, 2, 3, 4, 5, 6, 7, 8, 9, 10], [11]), ([12, 0, 1, 2, 3, 4, 5, 6, 7, 8, 9, 10], [12]), ([13, 10, 10, 0, 1, 2, 3, 4, 5, 6, 7, 8, 9, 10], [10, 13])])
def iterB : List Nat := [0, 0, 2, 6, 14, 30, 0, 0, 192, 510, 1022, 2047, 4095, 8191, 16383]
theorem iterTab : rtab .any (opsOf Try.f59 9) = iterT := by kernel_rfl
theorem iterBits : waitsOk iterT.2 iterB = true := by kernel_rfl
/-- bytes.Clone. -/
theorem clone_c (A : Option Addr) (c : Nat) (l : List Int) (w : World) (h : Kd.C (Kd.int .u8) w A l.length l) (hl : l.length ≤ 140737488351232) :
    Calls Try.prog 61 #[.slice A l.length c] w fun e w' => ∃ A' c', e = .returned (.slice A' l.length c') ∧ w'.ownsRow w.heap.size 5 1 (.slice A' l.length c') l.length (nums .u8 l) ∧ Below w.heap.size w w' := by
  cases A with
  | none =>
    have h0 : l = [] := by
      cases l with
      | nil => rfl
      | cons x l =>
        obtain ⟨ad, _, he, _⟩ := Kd.C_get h (0 : Int) 0 (by omega) (by simp)
        cases he
    subst h0
    refine (Try.bytes_Clone_nil _ c w).mono ?_
    rintro e w' ⟨rfl, rfl⟩
    exact ⟨_, _, rfl, World.ownsRow_nil _ _ _ _, Below.refl _ _⟩
  | some a =>
    refine (Try.bytes_Clone_at a l.length c l w rfl (by omega) (fun i hi => ?_)).mono ?_
    · obtain ⟨ad, cs, he, hl1, hK, hc⟩ := Kd.C_get h (0 : Int) (i : Int) (by omega) (by omega)
      cases he
      have hK' : cs = [.int .u8 (l.getD ((i : Int)).toNat 0)] := hK
      subst hK'
      have := hc 0 _ rfl
      have h1 : (Kd.int IntKind.u8).sz = 1 := rfl
      simpa [h1] using this
    · rintro e w' ⟨v', rfl, ho, _, hb⟩
      rcases Joins.ownsRow_forms ho with ⟨rfl, h0⟩ | ⟨g, cap, rfl⟩
      · exact ⟨none, 0, by rw [h0], by rw [h0] at ho ⊢; exact ho, hb⟩
      · exact ⟨_, _, rfl, ho, hb⟩

theorem own_after {w w1 : World} {base e size n : Nat} {v : Value} {xs : List Value} (h : w.ownsRow base e size v n xs) (hb : Below w.heap.size w w1) : w1.ownsRow base e size v n xs :=
  own_move h (fun k hk => hb.block k (own_lt h k hk))

theorem own_keep {w w1 : World} {base n a : Nat} {v : Value} {xs : List Value} {cs : Array Value} (h : w.ownsRow base 5 1 v n xs) (ha : w.heap[a]? = some (.cells cs 81 (0, 0))) (hk : KeepBut w w1 a none) : w1.ownsRow base 5 1 v n xs :=
  own_move h (fun k hv => hk.2 k (own_lt h k hv) (fun e => by
    subst e
    obtain ⟨c, hc⟩ := own_typed h k hv
    rw [ha] at hc
    cases hc) (by simp))

theorem wide_room {n : Nat} (h : Fence.wide.depth.isSome = true) : 1 ≤ n := by simp [Fence.wide] at h

theorem own_kp {w w1 : World} {base n : Nat} {v : Value} {xs : List Value} (h : w.ownsRow base 5 1 v n xs) (hk : Kp w w1) : w1.ownsRow base 5 1 v n xs :=
  own_move h (fun k hv => by
    obtain ⟨c, hc⟩ := own_typed h k hv
    rw [hc]
    exact hk.2.1 k c 5 (0, 0) hc (by decide) (by decide))

set_option maxHeartbeats 4000000 in
set_option maxRecDepth 100000 in
theorem iter_c (lr Bn a nb n0 : Nat) (n : Nat) (lim tot : Int) (v0 : Value) (b0 : List Int) (J : List (List Int) → Value → World → Prop)
    (hJ : ∀ fs v v' A B, J fs v A → KeepBut A B a none → Env A B → (∀ k, v'.ownBlock = some k → A.heap.size ≤ k ∨ v.ownBlock = some k) → (∀ k, v'.ownBlock = some k → ∃ cs, B.heap[k]? = some (.cells cs 5 (0, 0))) → J fs v' B)
    (hY : ∀ fs v f fv A, J fs v A → fs.length < b0.length → A.ownsRow n0 5 1 fv f.length (nums .u8 f) → (∀ k, fv.ownBlock = some k → some k ≠ v.ownBlock) → M.Bytes f →
      YieldAt Fence.wide (n - 1) Try.prog lr #[fv] A fun e B => e = .returned (.bool true) ∧ J (fs ++ [f]) v B ∧ Kp A B)
    (hlim : 0 ≤ lim ∧ lim ≤ 4096) (htot : 0 ≤ tot ∧ tot + b0.length ≤ 1152921504606846976) (hb0 : M.Bytes b0) (hl0 : b0.length ≤ 140737488351232) (W : World) (hn0 : n0 ≤ W.heap.size)
    (hBn : W.heap[Bn]? = some (.cells #[.pointer (some ⟨a, 0, none⟩)] 39 (0, 0))) (hst : W.heap[a]? = some (.cells (stc v0 0 lim tot) 81 (0, 0)))
    (hrow : W.ownsRow nb 5 1 v0 b0.length (nums .u8 b0)) (hnb : nb ≤ n0) (hJ0 : J [] v0 W) :
    CallsIn Fence.wide n Try.prog 59 #[.func (.yield lr) #[] #[], .pointer (some ⟨Bn, 0, none⟩)] W fun e W' => (∃ v, e = .returned v) ∧
      ∃ v', W'.heap[a]? = some (.cells (stc v' (run lim b0.length b0).2.2 lim (tot + size (run lim b0.length b0).1)) 81 (0, 0)) ∧ W'.ownsRow nb 5 1 v' (run lim b0.length b0).2.1.length (nums .u8 (run lim b0.length b0).2.1) ∧ J (run lim b0.length b0).1 v' W' ∧ (∀ k, v'.ownBlock = some k → n0 ≤ k ∨ v0.ownBlock = some k) := by
  obtain ⟨RR, hRR⟩ : ∃ R, run lim b0.length b0 = R := ⟨_, rfl⟩
  rw [hRR]
  have hwf := hlim
  refine callsIn_of_wp Try.func59 rfl trivial ?_ rfl
  simp only [Try.ntmps59, List.size_toArray, List.length_cons, List.length_nil, Nat.reduceAdd, Nat.reduceSub, Array.replicate_succ, Array.replicate_zero, List.push_toArray, List.append_toArray, List.nil_append, List.cons_append]
  gi_wp2
  gi_loopw [] (fun wr => ∃ (fs : List (List Int)) (v : Value) (b : List Int) (k : Nat), b.length ≤ k ∧ RR = (fs ++ (run lim k b).1, (run lim k b).2) ∧ fs.length + b.length ≤ b0.length ∧ size fs + b.length ≤ b0.length ∧ M.Bytes b ∧ n0 ≤ wr.heap.size ∧
      wr.heap[Bn]? = some (.cells #[.pointer (some ⟨a, 0, none⟩)] 39 (0, 0)) ∧ wr.heap[a]? = some (.cells (stc v 0 lim (tot + size fs)) 81 (0, 0)) ∧ wr.ownsRow nb 5 1 v b.length (nums .u8 b) ∧ J fs v wr ∧ (∀ k, v.ownBlock = some k → n0 ≤ k ∨ v0.ownBlock = some k))
    (fun wr => held a wr)
  case atStart =>
    exact ⟨[], v0, b0, b0.length, Nat.le_refl _, by rw [← hRR]; rfl, by simp, by simp [size], hb0, hn0, hBn, by simpa [size] using hst, hrow, hJ0, fun k h => .inr h⟩
  case round =>
    obtain ⟨fs, v, b, k, hk, hR, hcnt, hsz, hbb, hn1, hBn1, hst1, hrow1, hJ1, hv1⟩ := hrel
    have hbl : b.length ≤ 140737488351232 := by have := size_nonneg fs; omega
    obtain ⟨A, c, rfl, hcb, hC⟩ := Kd.R_reads (Kd.R_of_own (h1 := fun _ => rfl) (ok := fun _ => True) hrow1 (fun _ _ => trivial))
    obtain ⟨s0, s1, s2, s3⟩ := cells_st hst1
    have hp := blk_cell hBn1 0
    have hp0 : wr.cell? ⟨Bn, 0, none⟩ = some (.pointer (some ⟨a, 0, none⟩)) := hp.trans rfl
    clear hp
    by_cases hb : b = []
    · subst hb
      rw [run_nil] at hR
      simp only [List.length_nil, List.append_nil] at *
      gi_wp2
      go_end0
      refine ⟨⟨_, rfl⟩, .slice A 0 c, ?_⟩
      rw [hR]
      exact ⟨hst1, hrow1, hJ1, hv1⟩
    · have hpos : 0 < b.length := List.length_pos_iff.2 hb
      obtain ⟨k, rfl⟩ : ∃ m, k = m + 1 := ⟨k - 1, by omega⟩
      obtain ⟨g, hA⟩ : ∃ g : Nat, A = some ⟨g, 0, none⟩ := by
        obtain ⟨g, cap, hg⟩ := Joins.ownsRow_form hrow1 hpos
        simp only [Value.slice.injEq] at hg
        exact ⟨g, hg.1⟩
      subst hA
      have HC := Aside0.mk hC
      clear hC
      have Hst := Aside0.mk hst1
      have HBn := Aside0.mk hBn1
      have Hrow := Aside0.mk hrow1
      have HJ1 := Aside0.mk hJ1
      have Hv1 := Aside0.mk hv1
      have HJ := Aside0.mk hJ
      have HY := Aside0.mk hY
      have HH := Aside0.mk (fun W' (h : Kd.C (Kd.int .u8) W' (some ⟨g, 0, none⟩) b.length b) hv => (callsIn_wide (n := n - 1)).2 (head_c ⟨a, 0, none⟩ (some ⟨g, 0, none⟩) c b W' hv h hcb hbb hbl))
      have HS := Aside0.mk (fun W' e0 (h : W'.heap[a]? = some (.cells (stc (.slice (some ⟨g, 0, none⟩) b.length c) 0 lim (tot + size fs)) 81 (0, 0))) => (callsIn_wide (n := n - 1)).2 (stop_c a _ 0 lim (tot + size fs) e0 W' h))
      have Hok := Aside0.mk (head_ok hbb)
      have hz : ((b.length : Int) > 0) := by omega
      have hz1 : decide ((0 : Int) < (b.length : Int)) = true := decide_eq_true hz
      simp only [run, if_neg hb] at hR
      clear hz hst1 hBn1 hrow1 hJ1 hv1 hJ hY hst hBn hrow hJ0 hRR hb0 hl0
      obtain ⟨N, hN⟩ : ∃ x, (head b).1 = x := ⟨_, rfl⟩
      obtain ⟨S, hS⟩ : ∃ x, (head b).2.1 = x := ⟨_, rfl⟩
      obtain ⟨e, he⟩ : ∃ x, (head b).2.2 = x := ⟨_, rfl⟩
      rw [hN, hS, he] at HH Hok hR
      clear hN hS he
      by_cases h5 : e = 5
      · rw [if_pos h5] at hR
        have HR := Aside0.mk hR
        clear hR
        have h5' : (e == 5) = true := by simpa using h5
        gi_wp2
        refine ⟨trivial, wide_room, (HH.out _ HC.out s0).mono ?_⟩
        rintro e w1 ⟨rfl, ⟨nd, rfl⟩⟩
        gi_wp2
        refine bodyPost_ret (results_none rfl _ _ _) rfl ?_
        refine ⟨⟨_, rfl⟩, .slice (some ⟨g, 0, none⟩) b.length c, ?_⟩
        rw [HR.out]
        simp only [List.append_nil]
        exact ⟨Hst.out, Hrow.out, HJ.out _ _ _ _ _ HJ1.out ⟨Nat.le_refl _, fun _ _ _ _ => rfl⟩ ((Env.refl _).drewN_ _) (fun k h => .inr h) (fun k h => own_typed Hrow.out k h), Hv1.out⟩
      · rw [if_neg h5] at hR
        have h5' : (e == 5) = false := by simpa using h5
        clear h5
        by_cases h0 : e = 0
        · subst h0
          rw [if_neg (by simp)] at hR
          obtain ⟨hS1, hS10, hSb, hN0, hN4⟩ := Hok.out rfl
          by_cases hl : lim < N
          · rw [if_pos hl] at hR
            have HR := Aside0.mk hR
            clear hR
            have hl' : decide (lim < N) = true := decide_eq_true hl
            clear hl
            gi_wp2
            refine ⟨trivial, wide_room, (HH.out _ HC.out s0).mono ?_⟩
            rintro e w1 ⟨rfl, ⟨nd, rfl⟩⟩
            gi_wp2
            refine ⟨trivial, wide_room, (HS.out (wr.drewN nd) 3 Hst.out).mono ?_⟩
            rintro e w1 ⟨⟨r, rfl⟩, hw1, hk1, he1⟩
            have HW1 := Aside0.mk hw1
            have HK1 := Aside0.mk hk1
            have HE1 := Aside0.mk he1
            clear hw1 hk1 he1
            gi_wp2
            refine bodyPost_ret (results_none rfl _ _ _) rfl ?_
            refine ⟨⟨_, rfl⟩, .slice none 0 0, ?_⟩
            rw [HR.out]
            simp only [List.append_nil]
            exact ⟨HW1.out, World.ownsRow_nil _ _ _ _, HJ.out _ _ _ _ _ HJ1.out (show KeepBut wr w1 a none from HK1.out) (((Env.refl wr).drewN_ nd).trans HE1.out) (fun k h => by simp [Value.ownBlock] at h) (fun k h => by simp [Value.ownBlock] at h), fun k h => by simp [Value.ownBlock] at h⟩
          · rw [if_neg hl] at hR
            have hl' : decide (lim < N) = false := decide_eq_false hl
            have hw : wrap64 (S + N) = S + N := by unfold wrap64; omega
            by_cases hs : (b.length : Int) < S + N
            · rw [if_pos hs] at hR
              have HR := Aside0.mk hR
              clear hR
              have hs' : decide ((b.length : Int) < wrap64 (S + N)) = true := by rw [hw]; exact decide_eq_true hs
              clear hs hw hl hS1 hS10 hSb hN0 hN4
              gi_wp2
              refine ⟨trivial, wide_room, (HH.out _ HC.out s0).mono ?_⟩
              rintro e w1 ⟨rfl, ⟨nd, rfl⟩⟩
              gi_wp2
              refine bodyPost_ret (results_none rfl _ _ _) rfl ?_
              refine ⟨⟨_, rfl⟩, .slice (some ⟨g, 0, none⟩) b.length c, ?_⟩
              rw [HR.out]
              simp only [List.append_nil]
              exact ⟨Hst.out, Hrow.out, HJ.out _ _ _ _ _ HJ1.out ⟨Nat.le_refl _, fun _ _ _ _ => rfl⟩ ((Env.refl _).drewN_ _) (fun k h => .inr h) (fun k h => own_typed Hrow.out k h), Hv1.out⟩
            · rw [if_neg hs] at hR
              obtain ⟨f, hf⟩ : ∃ x, (b.take (S + N).toNat).drop S.toNat = x := ⟨_, rfl⟩
              obtain ⟨rest, hr⟩ : ∃ x, b.drop (S + N).toNat = x := ⟨_, rfl⟩
              rw [hf, hr] at hR
              have HR := Aside0.mk hR
              clear hR
              obtain ⟨i0, hi, _, hsz1, _⟩ := info_parts info5
              have hfl : f.length = (S + N).toNat - S.toNat := by rw [← hf, List.length_drop, List.length_take]; omega
              have hrl : rest.length = b.length - (S + N).toNat := by rw [← hr, List.length_drop]
              obtain ⟨A1, hA1⟩ : ∃ A1, A1 = (if c = S.toNat then some (⟨g, 0, none⟩ : Addr) else (some (⟨g, 0, none⟩ : Addr)).map (·.add (S.toNat * 1))) := ⟨_, rfl⟩
              obtain ⟨A2, hA2⟩ : ∃ A2, A2 = (if c = (S + N).toNat then some (⟨g, 0, none⟩ : Addr) else (some (⟨g, 0, none⟩ : Addr)).map (·.add ((S + N).toNat * 1))) := ⟨_, rfl⟩
              obtain ⟨c1, hc1⟩ : ∃ c1, c1 = c - S.toNat := ⟨_, rfl⟩
              obtain ⟨c2, hc2⟩ : ∃ c2, c2 = c - (S + N).toNat := ⟨_, rfl⟩
              have hcm : ∀ W : World, (Instr.slice 23 (.slice (some ⟨g, 0, none⟩) b.length c) (some (.int .i64 S)) (some (.int .i64 (wrap64 (S + N)))) none).run Try.prog W = .ok (.slice A1 f.length c1) W := by
                intro W
                rw [hw, hA1, hc1, hfl]
                exact cut_mid 23 5 .i64 .i64 Try.underlying23 hi 1 hsz1 (some ⟨g, 0, none⟩) b.length c S (S + N) (by omega) (by omega) (by omega) hcb W
              have hcf : ∀ W : World, (Instr.slice 23 (.slice (some ⟨g, 0, none⟩) b.length c) (some (.int .i64 (wrap64 (S + N)))) none none).run Try.prog W = .ok (.slice A2 rest.length c2) W := by
                intro W
                rw [hw, hA2, hc2, hrl]
                exact cut_from 23 5 .i64 Try.underlying23 hi 1 hsz1 (some ⟨g, 0, none⟩) b.length c (S + N) (by omega) (by omega) W
              have HCf := Aside0.mk (show ∀ W', Kd.C (Kd.int .u8) W' (some ⟨g, 0, none⟩) b.length b → Kd.C (Kd.int .u8) W' A1 f.length f from fun W' h => by rw [hA1, ← hf]; exact Kd.C_mid h (by omega) (by omega) hcb)
              have HCr := Aside0.mk (show ∀ W', Kd.C (Kd.int .u8) W' (some ⟨g, 0, none⟩) b.length b → Kd.C (Kd.int .u8) W' A2 rest.length rest from fun W' h => by rw [hA2, ← hr]; exact Kd.C_drop h (by omega) hcb)
              have HFL := Aside0.mk (show (f.length : Int) = N from by rw [hfl]; omega)
              have HRL := Aside0.mk (show (rest.length : Int) = b.length - (S + N) from by rw [hrl]; omega)
              have HBF := Aside0.mk (show M.Bytes f from by rw [← hf]; exact (hbb.take _).drop _)
              have HBR := Aside0.mk (show M.Bytes rest from by rw [← hr]; exact hbb.drop _)
              have HC1 := Aside0.mk (fun W' (h : Kd.C (Kd.int .u8) W' A1 f.length f) => (callsIn_wide (n := n - 1)).2 (clone_c A1 c1 f W' h (by omega)))
              have HC2 := Aside0.mk (fun W' (h : Kd.C (Kd.int .u8) W' A2 rest.length rest) => clone_c A2 c2 rest W' h (by omega))
              have HQ := Aside0.mk (show IntKind.i64.wrap (S + N) = S + N ∧ (0 ≤ S + N ∧ S + N ≤ (b.length : Int)) ∧ (if c = (S + N).toNat then some (⟨g, 0, none⟩ : Addr) else some (⟨g, (S + N).toNat, none⟩ : Addr)) = A2 ∧ b.length - (S + N).toNat = rest.length ∧ c - (S + N).toNat = c2 from ⟨(i64_w _).trans hw, ⟨by omega, by omega⟩, by (rw [hA2]; simp [Addr.add, show ¬ (S + N ≤ 0) by omega]), hrl.symm, hc2.symm⟩)
              have hs' : decide ((b.length : Int) < wrap64 (S + N)) = false := by rw [hw]; exact decide_eq_false hs
              have HLE := Aside0.mk (show S + N ≤ b.length from by omega)
              have HRng := Aside0.mk (And.intro hN0 (And.intro hS1 hS10))
              clear hs hw hl hS1 hS10 hSb hN0 hN4 hf hr hfl hrl hA1 hA2 hc1 hc2 hi hsz1
              gi_wp2
              refine ⟨trivial, wide_room, (HH.out _ HC.out s0).mono ?_⟩
              rintro e w1 ⟨rfl, ⟨nd, rfl⟩⟩
              gi_wp2
              refine ⟨trivial, wide_room, (HC1.out (wr.drewN nd) (HCf.out _ HC.out)).mono ?_⟩
              rintro e w1 ⟨Af, cf, rfl, hof, hB1⟩
              obtain ⟨vf, hvf⟩ : ∃ x, Value.slice Af f.length cf = x := ⟨_, rfl⟩
              rw [hvf] at hof ⊢
              have HB1 := Aside0.mk (show Below wr.heap.size wr w1 from below_step (pw_below_drewN (Below.refl _ _) nd) hB1)
              have HBn1 := Aside0.mk (blk_below HBn.out HB1.out)
              have Hst1 := Aside0.mk (blk_below Hst.out HB1.out)
              have Hof1 := Aside0.mk hof
              have HCr1 := Aside0.mk (HCr.out _ (Kd.C_below HC.out HB1.out))
              have HS1 := Aside0.mk (show w1.cell? ⟨Bn, 0, none⟩ = some (.pointer (some ⟨a, 0, none⟩)) ∧ w1.cell? ⟨a, 0, none⟩ = some (.slice (some ⟨g, 0, none⟩) b.length c) from ⟨(blk_cell HBn1.out 0).trans rfl, (cells_st Hst1.out).1⟩)
              clear hof hB1 HC1 HH HS
              gi_wp2
              refine wpIn_wide.2 ?_
              refine start_ (n := 15) (S := fun w' => w'.cell? ⟨Bn, 0, none⟩ = some (.pointer (some ⟨a, 0, none⟩)) ∧ w'.cell? ⟨a, 0, none⟩ = some (.slice (some ⟨g, 0, none⟩) b.length c)) (ds := [14]) #[false, false, false, false, false, false, false, false, false, false, false, false, false, false, false] (by kernel_rfl) rfl rfl HS1.out (fun hHeld0 => ?_)
              refine with_tabW iterTab iterBits (fun HT_ HW_ => ?_)
              clear hHeld0
              refine pure_ (i := 6) (N := some 68) (v := ?_) (a' := ?_) #[false, false, false, false, false, false, true, false, false, false, false, false, false, false, false] rfl rfl (any_of HT_.out (by kernel_rfl)) (fun _ _ _ h => h) (Or.inl ⟨by rfl, ?_⟩) ?_ ?_
              rotate_left
              · intro w'
                go_simp
                with_reducible rfl
              rotate_left
              · simp only [Act.put, List.setIfInBounds_toArray, List.set_cons_zero, List.set_cons_succ]
                rfl
              refine pure_ (i := 7) (N := some 69) (v := ?_) (a' := ?_) #[false, false, false, false, false, false, true, true, false, false, false, false, false, false, false] rfl rfl (any_of HT_.out (by kernel_rfl)) (fun _ _ _ h => h) (Or.inl ⟨by rfl, ?_⟩) ?_ ?_
              rotate_left
              · intro w'
                go_simp
                with_reducible rfl
              rotate_left
              · simp only [Act.put, List.setIfInBounds_toArray, List.set_cons_zero, List.set_cons_succ]
                rfl
              refine pure_ (i := 8) (N := some 70) (v := ?_) (a' := ?_) #[false, false, false, false, false, false, true, true, true, false, false, false, false, false, false] rfl rfl (any_of HT_.out (by kernel_rfl)) (fun _ _ _ h => h) (Or.inl ⟨by rfl, ?_⟩) ?_ ?_
              rotate_left
              · intro w'
                go_simp
                with_reducible rfl
              rotate_left
              · simp only [Act.put, List.setIfInBounds_toArray, List.set_cons_zero, List.set_cons_succ]
                rfl
              refine take_ (i := 0) (N := some 62) (v := ?_) (a' := ?_) #[true, false, false, false, false, false, true, true, true, false, false, false, false, false, false] rfl rfl (take_ofW HT_.out HW_.out (by kernel_rfl)) (fun _ _ _ h => h) (Or.inl ⟨by rfl, ?_⟩) HS1.out ?_ ?_
              rotate_left
              · intro w' hw'
                obtain ⟨q0, q1⟩ := hw'
                go_simp
                with_reducible rfl
              rotate_left
              · simp only [Act.put, List.setIfInBounds_toArray, List.set_cons_zero, List.set_cons_succ]
                rfl
              refine take_ (i := 1) (N := some 63) (v := ?_) (a' := ?_) #[true, true, false, false, false, false, true, true, true, false, false, false, false, false, false] rfl rfl (take_ofW HT_.out HW_.out (by kernel_rfl)) (fun _ _ _ h => h) (Or.inl ⟨by rfl, ?_⟩) HS1.out ?_ ?_
              rotate_left
              · intro w' hw'
                obtain ⟨q0, q1⟩ := hw'
                go_simp
                with_reducible rfl
              rotate_left
              · simp only [Act.put, List.setIfInBounds_toArray, List.set_cons_zero, List.set_cons_succ]
                rfl
              refine pure_ (i := 2) (N := some 64) (v := ?_) (a' := ?_) #[true, true, true, false, false, false, true, true, true, false, false, false, false, false, false] rfl rfl (any_of HT_.out (by kernel_rfl)) (fun _ _ _ h => h) (Or.inl ⟨by rfl, ?_⟩) ?_ ?_
              rotate_left
              · intro w'
                go_simp
                with_reducible rfl
              rotate_left
              · simp only [Act.put, List.setIfInBounds_toArray, List.set_cons_zero, List.set_cons_succ]
                rfl
              refine pure_ (i := 3) (N := some 65) (v := ?_) (a' := ?_) #[true, true, true, true, false, false, true, true, true, false, false, false, false, false, false] rfl rfl (any_of HT_.out (by kernel_rfl)) (fun _ _ _ h => h) (Or.inl ⟨by rfl, ?_⟩) ?_ ?_
              rotate_left
              · intro w'
                go_simp
                with_reducible rfl
              rotate_left
              · simp only [Act.put, List.setIfInBounds_toArray, List.set_cons_zero, List.set_cons_succ]
                rfl
              refine pure_ (i := 4) (N := some 66) (v := ?_) (a' := ?_) #[true, true, true, true, true, false, true, true, true, false, false, false, false, false, false] rfl rfl (any_of HT_.out (by kernel_rfl)) (fun _ _ _ h => h) (Or.inl ⟨by rfl, ?_⟩) ?_ ?_
              rotate_left
              · intro w'
                go_simp
                with_reducible rfl
              rotate_left
              · simp only [Act.put, List.setIfInBounds_toArray, List.set_cons_zero, List.set_cons_succ]
                rfl
              refine take_ (i := 5) (N := some 67) (v := ?_) (a' := ?_) #[true, true, true, true, true, true, true, true, true, false, false, false, false, false, false] rfl rfl (take_ofW HT_.out HW_.out (by kernel_rfl)) (fun _ _ _ h => h) (Or.inl ⟨by rfl, ?_⟩) HS1.out ?_ ?_
              rotate_left
              · intro w' hw'
                obtain ⟨q0, q1⟩ := hw'
                go_simp
                with_reducible rfl
              rotate_left
              · simp only [Act.put, List.setIfInBounds_toArray, List.set_cons_zero, List.set_cons_succ]
                rfl
              refine pure_ (i := 9) (N := some 71) (v := ?_) (a' := ?_) #[true, true, true, true, true, true, true, true, true, true, false, false, false, false, false] rfl rfl (any_of HT_.out (by kernel_rfl)) (fun _ _ _ h => h) (Or.inl ⟨by rfl, ?_⟩) ?_ ?_
              rotate_left
              · intro w'
                go_simp
                obtain ⟨hq1, hq2, hq3, hq4, hq5⟩ := HQ.out
                rw [hq1, if_pos hq2, hq3, hq4, hq5]
              rotate_left
              · simp only [Act.put, List.setIfInBounds_toArray, List.set_cons_zero, List.set_cons_succ]
                rfl
              refine one_ (i := 10) (N := some 72) #[true, true, true, true, true, true, true, true, true, true, true, false, false, false, false] rfl rfl (one_of HT_.out (by kernel_rfl)) (by decide) (fun K hK => ?_)
              refine goes_ Try.func61 (by kernel_rfl) rfl #[.slice A2 rest.length c2] (by rfl) rfl rfl (by (try simp only [List.map_toArray, List.map_cons, List.map_nil]); first | done | rfl) ?_
              refine (HC2.out w1.drew HCr1.out).mono ?_
              rintro e w2 ⟨Ab, cb, rfl, hob, hB2⟩
              refine ⟨_, rfl, ?_⟩
              have HB2 := Aside0.mk (show Below w1.heap.size w1 w2 from below_step (below_drew (Below.refl _ _)) hB2)
              have HBn2 := Aside0.mk (blk_below HBn1.out HB2.out)
              have Hst2 := Aside0.mk (blk_below Hst1.out HB2.out)
              have Hob := Aside0.mk hob
              have HS2 := Aside0.mk (show w2.cell? ⟨Bn, 0, none⟩ = some (.pointer (some ⟨a, 0, none⟩)) ∧ w2.cell? ⟨a, 0, none⟩ = some (.slice (some ⟨g, 0, none⟩) b.length c) from ⟨(blk_cell HBn2.out 0).trans rfl, (cells_st Hst2.out).1⟩)
              clear hB2 hob
              refine hK.out _ _ HS2.out (fun hHeld0 => ?_)
              clear hK K hHeld0
              refine norm_ (a' := ?_) ?_ ?_
              rotate_left
              · show Act.put _ (some 72) _ = _
                simp only [Act.put, List.setIfInBounds_toArray, List.set_cons_zero, List.set_cons_succ]
                rfl
              refine pure_ (i := 11) (N := some 73) (v := ?_) (a' := ?_) #[true, true, true, true, true, true, true, true, true, true, true, true, false, false, false] rfl rfl (any_of HT_.out (by kernel_rfl)) (fun _ _ _ h => h) (Or.inl ⟨by rfl, ?_⟩) ?_ ?_
              rotate_left
              · intro w'
                go_simp
                with_reducible rfl
              rotate_left
              · simp only [Act.put, List.setIfInBounds_toArray, List.set_cons_zero, List.set_cons_succ]
                rfl
              refine pure_ (i := 12) (N := some 74) (v := ?_) (a' := ?_) #[true, true, true, true, true, true, true, true, true, true, true, true, true, false, false] rfl rfl (any_of HT_.out (by kernel_rfl)) (fun _ _ _ h => h) (Or.inl ⟨by rfl, ?_⟩) ?_ ?_
              rotate_left
              · intro w'
                go_simp
                with_reducible rfl
              rotate_left
              · simp only [Act.put, List.setIfInBounds_toArray, List.set_cons_zero, List.set_cons_succ]
                rfl
              refine pure_ (i := 13) (N := some 75) (v := ?_) (a' := ?_) #[true, true, true, true, true, true, true, true, true, true, true, true, true, true, false] rfl rfl (any_of HT_.out (by kernel_rfl)) (fun _ _ _ h => h) (Or.inl ⟨by rfl, ?_⟩) ?_ ?_
              rotate_left
              · intro w'
                go_simp
                with_reducible rfl
              rotate_left
              · simp only [Act.put, List.setIfInBounds_toArray, List.set_cons_zero, List.set_cons_succ]
                rfl
              refine last_ (i := 14) (N := none) #[true, true, true, true, true, true, true, true, true, true, true, true, true, true, true] rfl rfl (one_of HT_.out (by kernel_rfl)) (by decide) (fun K hK => ?_)
              have hfz := blk_frozen Hst2.out 0
              have hcl := (cells_st Hst2.out).1
              refine skip_ (w1 := ?_) (by rfl) rfl ?_ ?_
              rotate_left
              · go_simp
                rfl
              refine hK.out _ _ ?_
              clear hK K
              refine done_ (done_of HT_.out (by kernel_rfl)) ?_
              have HK3 := Aside0.mk (show KeepBut wr (w2.setCell ⟨a, 0, none⟩ (.slice Ab rest.length cb)) a none from (KeepBut.of_below (below_step HB1.out HB2.out) a none).set_ 0 _)
              have Hst3 := Aside0.mk (show (w2.setCell ⟨a, 0, none⟩ (.slice Ab rest.length cb)).heap[a]? = some (.cells (stc (.slice Ab rest.length cb) 0 lim (tot + size fs)) 81 (0, 0)) from blk_set Hst2.out 0 _)
              have hw2 : wrap64 (tot + size fs + N) = tot + size (fs ++ [f]) := by
                have := size_nonneg fs
                have h1 := HRL.out
                have h2 := HFL.out
                have h3 := HRng.out
                rw [size_snoc]
                unfold wrap64
                omega
              have hw3 : IntKind.i64.wrap (tot + size fs + N) = tot + size (fs ++ [f]) := (i64_w _).trans hw2
              have HBn3 := Aside0.mk (show (w2.setCell ⟨a, 0, none⟩ (.slice Ab rest.length cb)).heap[Bn]? = some (.cells #[.pointer (some ⟨a, 0, none⟩)] 39 (0, 0)) from blk_far HBn2.out (blk_ne HBn2.out Hst2.out (by decide)) _)
              obtain ⟨w3, hw3e⟩ : ∃ x, w2.setCell ⟨a, 0, none⟩ (.slice Ab rest.length cb) = x := ⟨_, rfl⟩
              rw [hw3e] at HK3 Hst3 HBn3 ⊢
              have HE3 := Aside0.mk hw3e
              clear hw3e
              have HK4 := Aside0.mk (show KeepBut wr (w3.setCell ⟨a, 3, none⟩ (.int .i64 (tot + size (fs ++ [f])))) a none from HK3.out.set_ 3 _)
              have HEnv4 := Aside0.mk (show Env wr (w3.setCell ⟨a, 3, none⟩ (.int .i64 (tot + size (fs ++ [f])))) from by rw [← HE3.out]; exact (((Env.of_below HB1.out).trans (Env.of_below HB2.out)).set_ _ _).set_ _ _)
              have Hst4 := Aside0.mk (show (w3.setCell ⟨a, 3, none⟩ (.int .i64 (tot + size (fs ++ [f])))).heap[a]? = some (.cells (stc (.slice Ab rest.length cb) 0 lim (tot + size (fs ++ [f]))) 81 (0, 0)) from blk_set Hst3.out 3 _)
              have HBn4 := Aside0.mk (show (w3.setCell ⟨a, 3, none⟩ (.int .i64 (tot + size (fs ++ [f])))).heap[Bn]? = some (.cells #[.pointer (some ⟨a, 0, none⟩)] 39 (0, 0)) from blk_far HBn3.out (blk_ne HBn3.out Hst3.out (by decide)) _)
              have Hob4 := Aside0.mk (show (w3.setCell ⟨a, 3, none⟩ (.int .i64 (tot + size (fs ++ [f])))).ownsRow w1.heap.size 5 1 (.slice Ab rest.length cb) rest.length (nums .u8 rest) from own_keep Hob.out Hst2.out (by rw [← HE3.out]; exact ((KeepBut.refl w2 a none).set_ 0 _).set_ 3 _))
              have Hof4 := Aside0.mk (show (w3.setCell ⟨a, 3, none⟩ (.int .i64 (tot + size (fs ++ [f])))).ownsRow n0 5 1 vf f.length (nums .u8 f) from own_weaken (own_keep Hof1.out Hst1.out (by rw [← HE3.out]; exact ((KeepBut.of_below HB2.out a none).set_ 0 _).set_ 3 _)) hn1)
              have HJ4 := Aside0.mk (HJ.out fs _ (.slice Ab rest.length cb) wr (w3.setCell ⟨a, 3, none⟩ (.int .i64 (tot + size (fs ++ [f])))) HJ1.out HK4.out HEnv4.out (fun k hk => .inl (Nat.le_trans HB1.out.size (own_base Hob.out k hk))) (fun k hk => own_typed Hob4.out k hk))
              have hblk : ∀ k, vf.ownBlock = some k → some k ≠ (Value.slice Ab rest.length cb).ownBlock := by
                intro k hk e
                have h1 := own_lt Hof1.out k hk
                have h2 := own_base Hob.out k e.symm
                have h3 : w1.drew.heap.size = w1.heap.size := rfl
                omega
              obtain ⟨fn, tmps, assign, body, hy, hR5⟩ := HY.out fs (.slice Ab rest.length cb) f vf _ HJ4.out (by omega) Hof4.out hblk HBF.out
              clear hblk s0 s1 s2 s3 hp0 hcm hcf hs' hw2 HS1 HS2
              have s3 := (cells_st Hst3.out).2.2.2
              have hp0 : w3.cell? ⟨Bn, 0, none⟩ = some (.pointer (some ⟨a, 0, none⟩)) := (blk_cell HBn3.out 0).trans rfl
              have hfz := blk_frozen Hst3.out 3
              gi_wp2
              refine ⟨wide_room, hR5.mono ?_⟩
              rintro e w5 ⟨rfl, hJ5, hK5⟩
              have HJ5 := Aside0.mk hJ5
              have HK5 := Aside0.mk hK5
              clear hJ5 hK5 hR5 hy
              gi_wp2
              go_roundw
              case rel =>
                have h2 := HFL.out
                have h3 := HRL.out
                have h4 := HRng.out
                refine ⟨fs ++ [f], .slice Ab rest.length cb, rest, k, by omega, ?_, by simp; omega, ?_, HBR.out, ?_, HK5.out.2.1 _ _ _ _ HBn4.out (by decide) (by decide), HK5.out.2.1 _ _ _ _ Hst4.out (by decide) (by decide), own_kp (own_weaken Hob4.out ?_) HK5.out, HJ5.out, ?_⟩
                · rw [HR.out]; simp
                · rw [size_snoc]; omega
                · exact Nat.le_trans hn1 (Nat.le_trans HK4.out.1 HK5.out.1)
                · have := HB1.out.size; omega
                · intro k hk
                  have := own_base Hob4.out k hk
                  have := HB1.out.size
                  exact .inl (by omega)
              case measure =>
                have h3 := HRL.out
                have h4 := HRng.out
                rw [held_eq (HK5.out.2.1 _ _ _ _ Hst4.out (by decide) (by decide)), held_eq Hst.out]
                omega
        · rw [if_pos h0] at hR
          have HR := Aside0.mk hR
          clear hR
          have h0' : (e != 0) = true := by simpa using h0
          clear h0
          gi_wp2
          refine ⟨trivial, wide_room, (HH.out _ HC.out s0).mono ?_⟩
          rintro e w1 ⟨rfl, ⟨nd, rfl⟩⟩
          gi_wp2
          refine ⟨trivial, wide_room, (HS.out (wr.drewN nd) e Hst.out).mono ?_⟩
          rintro e w1 ⟨⟨r, rfl⟩, hw1, hk1, he1⟩
          have HW1 := Aside0.mk hw1
          have HK1 := Aside0.mk hk1
          have HE1 := Aside0.mk he1
          clear hw1 hk1 he1
          gi_wp2
          refine bodyPost_ret (results_none rfl _ _ _) rfl ?_
          refine ⟨⟨_, rfl⟩, .slice none 0 0, ?_⟩
          rw [HR.out]
          simp only [List.append_nil]
          exact ⟨HW1.out, World.ownsRow_nil _ _ _ _, HJ.out _ _ _ _ _ HJ1.out (show KeepBut wr w1 a none from HK1.out) (((Env.refl wr).drewN_ nd).trans HE1.out) (fun k h => by simp [Value.ownBlock] at h) (fun k h => by simp [Value.ownBlock] at h), fun k h => by simp [Value.ownBlock] at h⟩

end Go.Proofs.Ytmemmhalcieelaa.F
