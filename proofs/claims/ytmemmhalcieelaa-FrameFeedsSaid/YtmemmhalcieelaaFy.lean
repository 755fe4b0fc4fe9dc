/-
frame: Feed, told by the bytes that have been fed so far.
-/
import Derived.Test.YtmemmhalcieelaaFw
namespace Go.Proofs.Ytmemmhalcieelaa.F
open Go.RowKit Go.Proofs.YtmemmhalcieelaaW.PrintWords Go.Proofs.YtmemmhalcieelaaW.PrintLast Go.Proofs.YtmemmhalcieelaaW.PrintMore Go.Proofs.Ytmemmhalcieelaa.V

theorem size_le_laid : ∀ fs : List (List Int), size fs ≤ laid fs
  | [] => by simp [size, laid]
  | f :: fs => by
    rw [size_cons, laid_cons]
    have := size_le_laid fs
    omega

theorem size_all {lim : Int} (hlim : lim ≤ 4096) {b : List Int} (hb : M.Bytes b) : 0 ≤ size (all lim b).1 ∧ size (all lim b).1 ≤ b.length := by
  have h1 := size_le_laid (all lim b).1
  rw [all_laid lim hlim b hb] at h1
  obtain ⟨_, f2, _⟩ := all_facts lim b hb
  exact ⟨size_nonneg _, by omega⟩

theorem size_append (fs gs : List (List Int)) : size (fs ++ gs) = size fs + size gs := by simp [size]

/-- What is held behind bytes that went through. -/
def held' (lim : Int) (p : List Int) : List Int := p.drop (all lim p).2.1.toNat

/-- The frames that a chunk brings. -/
def more (lim : Int) (p ch : List Int) : List (List Int) := (all lim (held' lim p ++ ch)).1

theorem more_app {lim : Int} {p ch : List Int} (hp : M.Bytes p) (hch : M.Bytes ch) (hno : (all lim p).2.2 = 0 ∨ (all lim p).2.2 = 5) :
    (all lim (p ++ ch)).1 = (all lim p).1 ++ more lim p ch ∧ (all lim (held' lim p ++ ch)).2.2 = (all lim (p ++ ch)).2.2 ∧ (held' lim p ++ ch).drop (all lim (held' lim p ++ ch)).2.1.toNat = held' lim (p ++ ch) := by
  have h := all_app lim p hp ch hch hno
  obtain ⟨f1, f2, _⟩ := all_facts lim p hp
  obtain ⟨g1, g2, _⟩ := all_facts lim (held' lim p ++ ch) ((hp.drop _).append hch)
  refine ⟨by rw [h]; rfl, by rw [h]; rfl, ?_⟩
  unfold held'
  rw [h]
  simp only
  have hd : p.drop (all lim p).2.1.toNat ++ ch = (p ++ ch).drop (all lim p).2.1.toNat := (List.drop_append_of_le_length (by omega)).symm
  unfold held' at g1 g2
  have e : ((all lim p).2.1 + (all lim (p.drop (all lim p).2.1.toNat ++ ch)).2.1).toNat = (all lim p).2.1.toNat + (all lim (p.drop (all lim p).2.1.toNat ++ ch)).2.1.toNat := by omega
  rw [e, ← List.drop_drop, ← hd]

/-- The fault that a chunk brings. -/
def flt (no : Int) : Int := if no = 0 ∨ no = 5 then 0 else no

theorem feed_step (a nb : Nat) (lim : Int) (p ch : List Int) (bv : Value) (A : Option Addr) (c : Nat) (w : World) (hlim : 0 ≤ lim ∧ lim ≤ 4096) (hp : M.Bytes p) (hch : M.Bytes ch) (hlen : p.length + ch.length ≤ 100000)
    (hno : (all lim p).2.2 = 0 ∨ (all lim p).2.2 = 5) (hst : w.heap[a]? = some (.cells (stc bv 0 lim (size (all lim p).1)) 81 (0, 0))) (hrow : w.ownsRow nb 5 1 bv (held' lim p).length (nums .u8 (held' lim p))) (hnb : nb ≤ w.heap.size) (hna : nb ≤ a)
    (hC : Kd.C (Kd.int .u8) w A ch.length ch) :
    Calls Try.prog 28 #[.pointer (some ⟨a, 0, none⟩), .slice A ch.length c] w fun e w' => ∃ lv bv', e = .returned (.tuple #[lv, .int .i64 (flt (all lim (p ++ ch)).2.2)]) ∧
      w'.heap[a]? = some (.cells (stc bv' (flt (all lim (p ++ ch)).2.2) lim (size (all lim (p ++ ch)).1)) 81 (0, 0)) ∧
      w'.ownsRow nb 5 1 bv' (if (all lim (p ++ ch)).2.2 = 0 ∨ (all lim (p ++ ch)).2.2 = 5 then held' lim (p ++ ch) else []).length (nums .u8 (if (all lim (p ++ ch)).2.2 = 0 ∨ (all lim (p ++ ch)).2.2 = 5 then held' lim (p ++ ch) else [])) ∧
      Kd.R (Kd.slice 5 (Kd.int .u8)) 23 w' w.heap.size (fun k => some k ≠ bv'.ownBlock) lv (more lim p ch) ∧
      (∀ k, bv'.ownBlock = some k → w.heap.size ≤ k ∨ bv.ownBlock = some k) ∧ KeepBut w w' a bv.ownBlock ∧ Below nb w w' := by
  obtain ⟨m1, m2, m3⟩ := more_app hp hch hno
  have hs := size_all hlim.2 hp
  have hh : (held' lim p).length ≤ p.length := by unfold held'; rw [List.length_drop]; omega
  have hb2 := (hp.drop (all lim p).2.1.toNat).append hch
  have h := feed_c a nb lim (size (all lim p).1) bv (held' lim p) A c ch w hlim ⟨hs.1, by omega⟩ (hp.drop _) hch (by omega) hst hrow hnb hC
  rw [run_all lim _ (held' lim p ++ ch) hb2 (Nat.le_refl _), m2, m3] at h
  refine h.mono ?_
  rintro e w' ⟨lv, bv', rfl, h1, h2, h3, h4, h5, h6⟩
  refine ⟨lv, bv', rfl, ?_, h2, h3, h4, h5, below_keep h5 h6 hnb hna (fun k hk => own_base hrow k hk)⟩
  rw [m1, size_append]
  exact h1

/-- A list of rows lies on through Feed. -/
theorem rows_keep {w w' : World} {nb a : Nat} {bv bv' v : Value} {cs : Array Value} {fs : List (List Int)} (h : Kd.R (Kd.slice 5 (Kd.int .u8)) 23 w nb (fun k => some k ≠ bv.ownBlock) v fs) (ha : w.heap[a]? = some (.cells cs 81 (0, 0)))
    (hk : KeepBut w w' a bv.ownBlock) (hb : ∀ k, bv'.ownBlock = some k → w.heap.size ≤ k ∨ bv.ownBlock = some k) : Kd.R (Kd.slice 5 (Kd.int .u8)) 23 w' nb (fun k => some k ≠ bv'.ownBlock) v fs := by
  refine Kd.R_mono (Kd.R_step (Kd.R_types (Kd.R_bound h) ha (by decide)) (fun k hk' hlt => hk.2 k hlt hk'.2 hk'.1.1)) (fun k hk' e => ?_)
  obtain ⟨⟨h1, _, h3, _⟩, _⟩ := hk'
  rcases hb k e.symm with h | h
  · omega
  · exact h1 h.symm

/-- The frames of one Feed, as they are appended to the list of all. -/
theorem rows_more {w : World} {nb base : Nat} {bv out lv : Value} {fs gs : List (List Int)} (ho : Kd.R (Kd.slice 5 (Kd.int .u8)) 23 w nb (fun k => some k ≠ bv.ownBlock) out fs) (hl : Kd.R (Kd.slice 5 (Kd.int .u8)) 23 w base (fun k => some k ≠ bv.ownBlock) lv gs) (hnb : nb ≤ base) :
    ∃ A c, lv = .slice A gs.length c ∧ ReadsRow ((Kd.slice 5 (Kd.int .u8)).M w nb (fun k => some k ≠ bv.ownBlock ∧ ∃ cells, w.heap[k]? = some (.cells cells 5 (0, 0)))) 1 w A gs.length gs ∧
      ∀ k, (some k ≠ bv.ownBlock ∧ ∃ cells, w.heap[k]? = some (.cells cells 5 (0, 0))) → some k ≠ bv.ownBlock ∧ some k ≠ out.ownBlock := by
  obtain ⟨A, c, he, _, hr⟩ := OwnRow.reads hl.2
  refine ⟨A, c, he, hr.imp_ (Below.refl _ _) (fun x cs h => ?_), fun k hk => ⟨hk.1, fun e => ?_⟩⟩
  · refine Kd.M_mono (Kd.slice 5 (Kd.int .u8)) (fun k hk => ?_) (Kd.M_bound (Kd.slice 5 (Kd.int .u8)) (Kd.M_lower (Kd.slice 5 (Kd.int .u8)) hnb h))
    obtain ⟨⟨h1, _⟩, _, _, q, hq, cells, hc⟩ := hk
    have h5 : q = 5 := by
      have hq' : q ∈ [5] := hq
      simpa using hq'
    exact ⟨h1, cells, h5 ▸ hc⟩
  · obtain ⟨inner, hown⟩ := Kd.R_own ho
    obtain ⟨c1, hc1⟩ := own_typed hown k e.symm
    obtain ⟨_, c2, hc2⟩ := hk
    rw [hc1] at hc2
    cases hc2

end Go.Proofs.Ytmemmhalcieelaa.F
