/-
frame: Feed.
-/
import Derived.Test.YtmemmhalcieelaaFb
import Derived.Sort.CutIn
namespace Go.Proofs.Ytmemmhalcieelaa.F
open Go.RowKit Go.Proofs.YtmemmhalcieelaaW.PrintWords Go.Proofs.YtmemmhalcieelaaW.PrintLast Go.Proofs.YtmemmhalcieelaaW.PrintMore Go.Proofs.Ytmemmhalcieelaa.V

attribute [local go_sem] Oper.semAt_some

theorem kp_trans {A B C : World} (h : Kp A B) (k : Kp B C) : Kp A C := ⟨Nat.le_trans h.1 k.1, fun i c t fz hi h1 h2 => k.2.1 i c t fz (h.2.1 i c t fz hi h1 h2) h1 h2, h.2.2.trans k.2.2⟩
theorem kp_put {W : World} {l : Nat} {o : Obj} (o' : Obj) (hl : W.heap[l]? = some o) (ho : o.isCells = false) : Kp W (W.putObj l o') :=
  ⟨by simp, fun k c t fz hk _ _ => (World.putObj_heap_other (by
    rintro rfl
    rw [hl] at hk
    cases hk
    cases ho)).trans hk, ⟨rfl, rfl, rfl⟩⟩

/-- A frame more in the list: by the blocks' types. -/
theorem rows_snoc {W w1 : World} {base : Nat} {lv v1 fv v : Value} {fs : List (List Int)} {f : List Int} {inner : List Value}
    (hreps : Reps ((Kd.slice 5 (Kd.int .u8)).M W base (fun k => some k ≠ v.ownBlock ∧ some k ≠ lv.ownBlock)) 1 fs inner) (hin : W.ownsRow base 23 1 lv fs.length inner)
    (hf : W.ownsRow base 5 1 fv f.length (nums .u8 f)) (hne : ∀ k, fv.ownBlock = some k → some k ≠ v.ownBlock) (hv : ∀ k, v.ownBlock = some k → ∃ cs, W.heap[k]? = some (.cells cs 5 (0, 0)))
    (hown : w1.ownsRow base 23 1 v1 (fs.length + 1) (inner ++ [fv])) (hg : W.grownBy w1 lv.ownBlock) : Kd.R (Kd.slice 5 (Kd.int .u8)) 23 w1 base (fun k => some k ≠ v.ownBlock) v1 (fs ++ [f]) := by
  have hlv : ∀ k cs, W.heap[k]? = some (.cells cs 5 (0, 0)) → some k ≠ lv.ownBlock := by
    intro k cs hk e
    obtain ⟨c, hc⟩ := own_typed hin k e.symm
    rw [hk] at hc
    cases hc
  have h5 : ∀ k cs, W.heap[k]? = some (.cells cs 5 (0, 0)) → some k ≠ v1.ownBlock := by
    intro k cs hk e
    obtain ⟨c, hc⟩ := own_typed hown k e.symm
    rw [hg.block k (blk_lt hk) (hlv k cs hk), hk] at hc
    cases hc
  have step : ∀ {q : List Int} {c : List Value} {o : Nat → Prop}, (Kd.slice 5 (Kd.int .u8)).M W base o q c → (∀ k, o k → some k ≠ v.ownBlock) → (Kd.slice 5 (Kd.int .u8)).M w1 base (fun k => some k ≠ v.ownBlock ∧ some k ≠ v1.ownBlock) q c := by
    intro q c o hq ho
    have key : ∀ k, (o k ∧ base ≤ k ∧ k < W.heap.size ∧ ∃ q, q ∈ (Kd.slice 5 (Kd.int .u8)).E ∧ ∃ cells, W.heap[k]? = some (.cells cells q (0, 0))) → ∃ cs, W.heap[k]? = some (.cells cs 5 (0, 0)) := by
      rintro k ⟨_, _, _, q, hq, cells, hc⟩
      have h5 : q = 5 := by
        have hq' : q ∈ [5] := hq
        simpa using hq'
      exact ⟨cells, h5 ▸ hc⟩
    have h1 := Kd.M_move (Kd.slice 5 (Kd.int .u8)) (w1 := w1) (fun k hk => by
      obtain ⟨cs, hc⟩ := key k hk
      exact hg.block k hk.2.2.1 (hlv k cs hc)) (Kd.M_bound (Kd.slice 5 (Kd.int .u8)) hq)
    refine Kd.M_mono (Kd.slice 5 (Kd.int .u8)) (fun k hk => ?_) h1
    obtain ⟨cs, hc⟩ := key k hk
    exact ⟨ho k hk.1, h5 k cs hc⟩
  refine ⟨fun k hk e => ?_, inner ++ [fv], by rw [List.length_append, List.length_singleton]; exact hown, ?_⟩
  · obtain ⟨cs, hc⟩ := hv k e.symm
    exact h5 k cs hc hk.symm
  · refine (hreps.imp_ (fun _ _ hq => step hq (fun _ hk => hk.1))).snoc (step (o := fun k => some k ≠ v.ownBlock) (show (Kd.slice 5 (Kd.int .u8)).M W base (fun k => some k ≠ v.ownBlock) f [fv] from ⟨fv, rfl, Kd.R_of_own (h1 := fun _ => rfl) hf (fun k hk => hne k hk)⟩) (fun _ h => h)) rfl

theorem kp_snoc {W w1 : World} {base B : Nat} {lv v1 : Value} {n : Nat} {inner : List Value} {tmp : Obj} (hin : W.ownsRow base 23 1 lv n inner) (hg : (W.alloc tmp).grownBy w1 lv.ownBlock) (hv : Boxed w1 B 40 lv) : Kp W (w1.setCell ⟨B, 0, none⟩ v1) := by
  have h1 : W.heap.size ≤ w1.heap.size := Nat.le_trans (by simp) hg.size
  refine ⟨by simpa [World.setCell] using h1, fun k c t fz hk h40 h23 => ?_, ((Env.of_below (Below.alloc (Below.refl W.heap.size W) (Nat.le_refl _) tmp)).trans (Env.of_grown hg)).set_ _ _⟩
  have h2 : (W.alloc tmp).heap[k]? = some (.cells c t fz) := (Below.heap_alloc W tmp k (blk_lt hk)).trans hk
  have h3 : w1.heap[k]? = some (.cells c t fz) := (hg.block k (blk_lt h2) (fun e => by
    obtain ⟨cs, hc⟩ := own_typed hin k e.symm
    rw [hk] at hc
    cases hc
    exact h23 rfl)).trans h2
  refine (Below.heap_setCell w1 ⟨B, 0, none⟩ v1 k (fun e => ?_)).trans h3
  subst e
  have hb : w1.heap[k]? = some (.cells #[lv] 40 (0, 0)) := hv
  rw [hb] at h3
  cases h3
  exact h40 rfl

/-- 'for f := range a.frames()': the statement, over the iterator's contract; n0: the frames' rows lie from there on. -/
theorem range_frames {g : Operand} {ps : Array Tmp} {assign body : Code} {Q : Exit → Act → World → Prop} {act : Act} {w : World} (n a Bn nb n0 : Nat) (lim tot : Int) (v0 : Value) (b0 : List Int)
    (hg : act.eval g = .func (.func 59) #[] #[.pointer (some ⟨Bn, 0, none⟩)]) (hps : ps.size = 1)
    (hlim : 0 ≤ lim ∧ lim ≤ 4096) (htot : 0 ≤ tot ∧ tot + b0.length ≤ 1152921504606846976) (hb0 : M.Bytes b0) (hl0 : b0.length ≤ 140737488351232) (hn0 : n0 ≤ w.heap.size)
    (hBn : w.heap[Bn]? = some (.cells #[.pointer (some ⟨a, 0, none⟩)] 39 (0, 0))) (hst : w.heap[a]? = some (.cells (stc v0 0 lim tot) 81 (0, 0)))
    (hrow : w.ownsRow nb 5 1 v0 b0.length (nums .u8 b0)) (hnb : nb ≤ n0)
    (I : List (List Int) → Value → World → Prop)
    (hI : ∀ fs v v' A B, I fs v A → KeepBut A B a none → Env A B → (∀ k, v'.ownBlock = some k → A.heap.size ≤ k ∨ v.ownBlock = some k) → (∀ k, v'.ownBlock = some k → ∃ cs, B.heap[k]? = some (.cells cs 5 (0, 0))) → I fs v' B)
    (hIl : ∀ fs v A l o o', I fs v A → w.heap.size ≤ l → A.heap[l]? = some o → o.isCells = false → I fs v (A.putObj l o'))
    (h0 : I [] v0 w) (a₁ : Value → Act)
    (hassign : ∀ (l : Nat) (x : Value) (W : World) (K : Act → World → Prop), K (a₁ x) W →
      assign.wpIn (Fence.wide.inRound l) (n - 1 - 1) Try.prog (Exit.then K (fun _ _ _ => False)) { tmps := (ps.zip #[x]).foldl (fun t (p, v) => t.setIfInBounds p v) act.tmps, defers := [] } W)
    (hbody : ∀ (l : Nat) fs v f fv W, I fs v W → fs.length < b0.length → W.ownsRow n0 5 1 fv f.length (nums .u8 f) → (∀ k, fv.ownBlock = some k → some k ≠ v.ownBlock) →
      body.wpIn (Fence.wide.inRound l) (n - 1 - 1) Try.prog (fun e _ W' => e = .normal ∧ KeepsOthers W W' ∧ Kp W W' ∧ I (fs ++ [f]) v W') (a₁ fv) W)
    (hdone : ∀ (D : Nat) (v' : Value) (W : World), w.heap.size ≤ D → W.heap[a]? = some (.cells (stc v' (run lim b0.length b0).2.2 lim (tot + size (run lim b0.length b0).1)) 81 (0, 0)) →
      W.ownsRow nb 5 1 v' (run lim b0.length b0).2.1.length (nums .u8 (run lim b0.length b0).2.1) → I (run lim b0.length b0).1 v' W → (∀ k, v'.ownBlock = some k → n0 ≤ k ∨ v0.ownBlock = some k) → W.heap[D]? = some (.deferred (some [])) →
      Q .normal { act with defers := { target := .collected D, args := #[] } :: act.defers } W) :
    (Code.rangeFunc g ps assign body).wpIn Fence.wide n Try.prog Q act w := by
  have halt : a < w.heap.size := blk_lt hst
  have hBlt : Bn < w.heap.size := blk_lt hBn
  refine wpIn_rangeFunc ?_
  intro fn hfn
  rw [show Fence.wide.round = none from rfl]
  obtain ⟨rec, hrec⟩ : ∃ rec : LoopState → Option Code → Loop, rec = fun st pe => { state := st, pending := pe, fn, tmps := act.tmps, params := ps, assign, body, defers := w.heap.size } := ⟨_, rfl⟩
  obtain ⟨W1, hW1⟩ : ∃ W1, (w.alloc (.deferred (some []))).alloc (.loop (rec .ready none)) = W1 := ⟨_, rfl⟩
  have hL1 : W1.heap[w.heap.size + 1]? = some (.loop (rec .ready none)) := by
    rw [← hW1]; have := World.alloc_heap_new (w.alloc (.deferred (some []))) (.loop (rec .ready none)); rwa [World.size_alloc] at this
  have hK1 : W1.heap[w.heap.size]? = some (.deferred (some [])) := by
    rw [← hW1]; exact (Below.heap_alloc _ _ _ (by simp)).trans (World.alloc_heap_new w _)
  have hb1 : Below w.heap.size w W1 := by
    rw [← hW1]; exact ((Below.refl _ w).alloc (Nat.le_refl _) _).alloc (by simp) _
  have hI1 : I [] v0 W1 := hI [] v0 v0 w W1 h0 (KeepBut.of_below hb1 a none) (Env.of_below hb1) (fun k hk => .inr hk) (fun k hk => own_typed (own_after hrow hb1) k hk)
  refine ⟨w.heap.size + 1, [{ target := .collected w.heap.size, args := #[] }], W1, { target := .fn (.func 59) #[.pointer (some ⟨Bn, 0, none⟩)], args := #[.func (.yield (w.heap.size + 1)) #[] #[]] }, W1, 59,
    #[.func (.yield (w.heap.size + 1)) #[] #[], .pointer (some ⟨Bn, 0, none⟩)], W1, ?_, ?_, ?_, ?_, wide_room, ?_⟩
  · rw [← hW1, hrec]; exact run_enterLoop_outer _ _ _ _ _
  · simp only [resolve, hg]
    simp [go_sem]
  · intro f' hf'; trivial
  · simp [invoke, go_sem]
  · refine (iter_c (w.heap.size + 1) Bn a nb n0 (n - 1) lim tot v0 b0
      (fun fs v W => I fs v W ∧ W.heap[w.heap.size + 1]? = some (.loop (rec .ready none)) ∧ W.heap[w.heap.size]? = some (.deferred (some [])))
      ?_ ?_ hlim htot hb0 hl0 W1 (Nat.le_trans hn0 hb1.size) (blk_below hBn hb1) (blk_below hst hb1) (own_after hrow hb1) hnb ⟨hI1, hL1, hK1⟩).mono ?_
    · rintro fs v v' A B ⟨hi, hl, hk⟩ hkeep henv hv hvl
      exact ⟨hI fs v v' A B hi hkeep henv hv hvl, (hkeep.2 _ (blk_lt hl) (by omega) (by simp)).trans hl, (hkeep.2 _ (blk_lt hk) (by omega) (by simp)).trans hk⟩
    · rintro fs v f fv W ⟨hi, hl, hk⟩ hlen hof hne hbf
      have hlt : w.heap.size + 1 < W.heap.size := blk_lt hl
      have hy := run_yield (P := Try.prog) (args := #[fv]) hl (by rw [hrec]; exact hps.symm)
      rw [hrec] at hy
      refine ⟨fn, _, assign, body, hy, roundIn_of_wpIn trivial (hassign _ fv W _ ⟨_, run_beginRound hl (by rw [hrec]), ?_⟩)⟩
      have hl2 : (W.putObj (w.heap.size + 1) (.loop { rec .ready none with state := .busy })).heap[w.heap.size + 1]? = some (.loop { rec .ready none with state := .busy }) := World.putObj_heap_same hlt
      have hk2 : (W.putObj (w.heap.size + 1) (.loop { rec .ready none with state := .busy })).heap[w.heap.size]? = some (.deferred (some [])) := (World.putObj_heap_other (by omega)).trans hk
      refine wpIn_mono (hbody _ fs v f fv _ (hIl _ _ _ _ _ _ hi (by omega) hl rfl) hlen (ownsRow_putObj hof _ hl rfl) hne) ?_
      rintro e a3 W3 ⟨rfl, hk3, hkp, hi3⟩
      have hl3 := hk3.same _ _ hl2 rfl
      have hr := run_endRound (P := Try.prog) none hl3
      rw [hrec] at hr
      refine ⟨_, _, hr, rfl, ⟨hIl _ _ _ _ _ _ hi3 (by omega) hl3 rfl, ?_, (World.putObj_heap_other (by omega)).trans (hk3.same _ _ hk2 rfl)⟩, ?_⟩
      · rw [hrec]; exact World.putObj_heap_same (blk_lt hl3)
      · exact kp_trans (kp_put _ hl rfl) (kp_trans hkp (kp_put _ hl3 rfl))
    · rintro e W2 ⟨⟨v, rfl⟩, v', hst2, hrow2, ⟨hi, hl, hk⟩, hv'⟩
      refine ⟨none, _, by have := run_endLoop (P := Try.prog) hl (by rw [hrec]; simp); rw [hrec] at this; exact this, ?_⟩
      have hne : a ≠ w.heap.size + 1 := by omega
      exact hdone _ v' _ (Nat.le_refl _) ((World.putObj_heap_other hne).trans hst2) (ownsRow_putObj hrow2 _ hl rfl) (hIl _ _ _ _ _ _ hi (by omega) hl rfl) hv' ((World.putObj_heap_other (by omega)).trans hk)

set_option maxHeartbeats 4000000 in
set_option maxRecDepth 100000 in
theorem feed_c (a nb : Nat) (lim tot : Int) (bv : Value) (buf : List Int) (A : Option Addr) (c : Nat) (ch : List Int) (w : World)
    (hlim : 0 ≤ lim ∧ lim ≤ 4096) (htot : 0 ≤ tot ∧ tot ≤ 1000000) (hbb : M.Bytes buf) (hch : M.Bytes ch) (hlen : buf.length + ch.length ≤ 1000000)
    (hst : w.heap[a]? = some (.cells (stc bv 0 lim tot) 81 (0, 0))) (hrow : w.ownsRow nb 5 1 bv buf.length (nums .u8 buf)) (hnb : nb ≤ w.heap.size) (hC : Kd.C (Kd.int .u8) w A ch.length ch) :
    Calls Try.prog 28 #[.pointer (some ⟨a, 0, none⟩), .slice A ch.length c] w fun e w' => ∃ lv bv', e = .returned (.tuple #[lv, .int .i64 (run lim (buf ++ ch).length (buf ++ ch)).2.2]) ∧
      w'.heap[a]? = some (.cells (stc bv' (run lim (buf ++ ch).length (buf ++ ch)).2.2 lim (tot + size (run lim (buf ++ ch).length (buf ++ ch)).1)) 81 (0, 0)) ∧
      w'.ownsRow nb 5 1 bv' (run lim (buf ++ ch).length (buf ++ ch)).2.1.length (nums .u8 (run lim (buf ++ ch).length (buf ++ ch)).2.1) ∧
      Kd.R (Kd.slice 5 (Kd.int .u8)) 23 w' w.heap.size (fun k => some k ≠ bv'.ownBlock) lv (run lim (buf ++ ch).length (buf ++ ch)).1 ∧
      (∀ k, bv'.ownBlock = some k → w.heap.size ≤ k ∨ bv.ownBlock = some k) ∧ KeepBut w w' a bv.ownBlock ∧ Env w w' := by
  obtain ⟨s0, s1, s2, s3⟩ := cells_st hst
  have Hst := Aside0.mk hst
  have HC := Aside0.mk hC
  have HR := Aside0.mk (show Kd.R (Kd.int .u8) 5 w nb (fun _ => True) bv buf from Kd.R_of_own (h1 := fun _ => rfl) hrow (fun _ _ => trivial))
  have Hrow := Aside0.mk hrow
  have hb1 : ((0 : Int) != 0) = false := rfl
  have HBL := Aside0.mk (show (buf ++ ch).length ≤ 1000000 by simp; omega)
  have HBy := Aside0.mk (hbb.append hch)
  obtain ⟨bb, hbe⟩ : ∃ x, buf ++ ch = x := ⟨_, rfl⟩
  rw [hbe] at HBL HBy ⊢
  have HBE := Aside0.mk hbe
  clear hbe hch hbb
  refine (callsIn_wide (n := 3)).1 ?_
  refine callsIn_of_wp_marks Try.func28 rfl trivial ?_ rfl
  simp only [Try.ntmps28, List.size_toArray, List.length_cons, List.length_nil, Nat.reduceAdd, Nat.reduceSub, Array.replicate_succ, Array.replicate_zero, List.push_toArray, List.append_toArray, List.nil_append, List.cons_append]
  clear hst hC hrow
  gi_upto_region 3 with (fail)
  refine wpIn_wide.2 ?_
  go_wp2_with (at_builtin; refine Kd.R_append_rows (Kd.int .u8) (w0 := w) nb rfl (.tmp 23) (.tmp 24) 23 5 (.int .u8 0) 1 rfl Try.underlying23 info5 rfl (by decide) (by omega) bv buf ch _ _ _ (fun _ => True) (fun _ => False) rfl rfl HR.out HC.out (fun _ _ h => h) (fun _ h => h.elim) (fun _ _ => trivial) (Below.refl _ _) hnb (by omega) ?_; intro v1 w1 ho hb hg hat; rw [HBE.out] at ho; obtain ⟨A1, c1, rfl⟩ := Kd.R_slice ho; have Hst1 := Aside0.mk (blk_grown Hst.out hg (Kd.R_ne HR.out Hst.out (by decide))); have HR1 := Aside0.mk ho; have HG1 := Aside0.mk hg; have HA1 := Aside0.mk hat; have hcl := (cells_st Hst1.out).1; have hfz := blk_frozen Hst1.out 0; clear ho hb hg hat)
  have Hst2 := Aside0.mk (show (w1.setCell ⟨a, 0, none⟩ (.slice A1 bb.length c1)).heap[a]? = some (.cells (stc (.slice A1 bb.length c1) 0 lim tot) 81 (0, 0)) from blk_set Hst1.out 0 _)
  have Hrow2 := Aside0.mk (show (w1.setCell ⟨a, 0, none⟩ (.slice A1 bb.length c1)).ownsRow nb 5 1 (.slice A1 bb.length c1) bb.length (nums .u8 bb) from own_keep (Kd.own_of_R HR1.out) Hst1.out ((KeepBut.refl w1 a none).set_ 0 _))
  have HK2 := Aside0.mk (show KeepBut w (w1.setCell ⟨a, 0, none⟩ (.slice A1 bb.length c1)) a bv.ownBlock from (KeepBut.of_grown HG1.out a).set_ 0 _)
  have HE2 := Aside0.mk (show Env w (w1.setCell ⟨a, 0, none⟩ (.slice A1 bb.length c1)) from (Env.of_grown HG1.out).set_ _ _)
  have hblk : ∀ k, (Value.slice A1 bb.length c1).ownBlock = some k → w.heap.size ≤ k ∨ bv.ownBlock = some k := by
    intro k hk
    rcases HA1.out with h | ⟨b, h, hle⟩
    · exact .inr (h ▸ hk)
    · rw [h] at hk
      cases hk
      exact .inl hle
  have HBlk := Aside0.mk hblk
  obtain ⟨w2, hw2⟩ : ∃ x, w1.setCell ⟨a, 0, none⟩ (.slice A1 bb.length c1) = x := ⟨_, rfl⟩
  rw [hw2] at Hst2 Hrow2 HK2 HE2 ⊢
  have hsz : w.heap.size ≤ w2.heap.size := HK2.out.1
  have HLt := Aside0.mk (blk_lt Hst.out)
  clear hw2 hcl hfz hblk s0 s1 s2 s3 hb1 HR1 HG1 HA1 Hst1 HR Hrow HC
  gi_wp2
  refine ⟨trivial, ((callsIn_wide (n := 2)).2 (frames_c _ _)).mono ?_⟩
  rintro e w4 ⟨rfl, rfl⟩
  rw [World.size_alloc]
  gi_wp2
  refine range_frames 3 a (w2.heap.size + 1) nb w.heap.size lim tot (.slice A1 bb.length c1) bb rfl rfl hlim (by have := HBL.out; omega) HBy.out (by have := HBL.out; omega) (by simp; omega) ?hBn ?hst ?hrow hnb
    (fun fs v W => (∃ lv, Boxed W w2.heap.size 40 lv ∧ Kd.R (Kd.slice 5 (Kd.int .u8)) 23 W w.heap.size (fun k => some k ≠ v.ownBlock) lv fs) ∧ (KeepBut w W a bv.ownBlock ∧ Env w W) ∧ (∀ k, v.ownBlock = some k → ∃ cs, W.heap[k]? = some (.cells cs 5 (0, 0))))
    ?hI ?hIl ?h0 (fun x => { tmps := #[Value.pointer (some ⟨a, 0, none⟩), Value.slice A ch.length c, undef, undef, Value.slice none 0 0, Value.int .i64 0, Value.pointer (some ⟨w2.heap.size, 0, none⟩), x, Value.pointer (some ⟨a, 0, none⟩), Value.bool false, Value.bool false, Value.pointer (some ⟨a, 0, none⟩), Value.pointer (some ⟨a, 0, none⟩), Value.pointer (some ⟨a, 0, none⟩), Value.pointer (some ⟨a, 1, none⟩), Value.int .i64 0, Value.bool false, Value.bool false, Value.pointer (some ⟨a, 0, none⟩), Value.pointer (some ⟨a, 0, none⟩), Value.pointer (some ⟨a, 0, none⟩), Value.pointer (some ⟨a, 0, none⟩), Value.pointer (some ⟨a, 0, none⟩), bv, Value.slice A ch.length c, Value.slice A1 bb.length c1, Value.pointer (some ⟨a, 0, none⟩), Value.pointer (some ⟨a, 0, none⟩), Value.pointer (some ⟨a, 0, none⟩), Value.pointer (some ⟨a, 0, none⟩), Value.func (.func 59) #[] #[.pointer (some ⟨w2.heap.size + 1, 0, none⟩)], x, undef, undef, undef, undef, undef, undef, undef, undef, undef, undef], defers := [] }) ?hassign ?hbody ?hdone
  case hBn => exact World.alloc_heap_new _ _ |> fun h => by rwa [World.size_alloc] at h
  case hst => exact blk_alloc (blk_alloc Hst2.out _) _
  case hrow => exact (Hrow2.out.alloc _).alloc _
  case hI =>
    rintro fs v v' P Q' ⟨⟨lv, hv, hr⟩, ⟨hk, he⟩, hvt⟩ hkeep henv hv' hvt'
    have halt := HLt.out
    have hb : ∀ k, (some k ≠ v.ownBlock ∧ w.heap.size ≤ k ∧ k < P.heap.size ∧ ∃ q, q ∈ 23 :: (Kd.slice 5 (Kd.int .u8)).E ∧ ∃ cells, P.heap[k]? = some (.cells cells q (0, 0))) → some k ≠ v'.ownBlock := by
      rintro k ⟨h1, h2, h3, _⟩ e
      rcases hv' k e.symm with h | h
      · omega
      · exact h1 h.symm
    refine ⟨⟨lv, (hkeep.2 _ hv.lt (by omega) (by simp)).trans hv, Kd.R_mono (Kd.R_step (Kd.R_bound hr) (fun k hk hlt => hkeep.2 k hlt (by have := hk.2.1; omega) (by simp))) hb⟩, ⟨⟨Nat.le_trans hk.1 hkeep.1, fun i hi hg hr => (hkeep.2 i (Nat.lt_of_lt_of_le hi hk.1) hg (by simp)).trans (hk.2 i hi hg hr)⟩, he.trans henv⟩, hvt'⟩
  case hIl =>
    rintro fs v P l o o' ⟨⟨lv, hv, hr⟩, ⟨hk, he⟩, hvt⟩ hl ho hoc
    have hne : ∀ k cs t, P.heap[k]? = some (.cells cs t (0, 0)) → k ≠ l := by
      rintro k cs t hk rfl
      rw [ho] at hk
      cases hk
      cases hoc
    refine ⟨⟨lv, (World.putObj_heap_other (hne _ _ _ hv)).trans hv, Kd.R_mono (Kd.R_step (Kd.R_bound hr) (fun k hk hlt => World.putObj_heap_other (by
      obtain ⟨_, _, _, q, _, cells, hc⟩ := hk
      exact hne _ _ _ hc))) (fun k hk => hk.1)⟩, ⟨⟨by simpa using hk.1, fun i hi hg hr => (World.putObj_heap_other (by simp at hl; omega)).trans (hk.2 i hi hg hr)⟩, he.trans ⟨rfl, rfl, rfl⟩⟩, fun k hv => ?_⟩
    obtain ⟨cs, hc⟩ := hvt k hv
    exact ⟨cs, (World.putObj_heap_other (hne _ _ _ hc)).trans hc⟩
  case h0 =>
    refine ⟨⟨.slice none 0 0, (Boxed.new w2 40 _).alloc _, Kd.R_nil _ _ _ _ _⟩, ⟨⟨by simp; omega, fun i hi hg hr => ?_⟩, HE2.out.trans ⟨rfl, rfl, rfl⟩⟩, fun k hk => own_typed ((Hrow2.out.alloc _).alloc _) k hk⟩
    exact (Below.heap_alloc _ _ i (by simp; omega)).trans ((Below.heap_alloc _ _ i (by omega)).trans (HK2.out.2 i hi hg hr))
  case hassign =>
    intro l x W K hK
    gi_wp2
    exact hK
  case hbody =>
    rintro l fs v f fv W ⟨⟨lv, hv, hr⟩, ⟨hk, he⟩, hvt⟩ hlen hof hne
    have HEw := Aside0.mk he
    clear he
    obtain ⟨hok, inner, hin, hreps⟩ := hr
    obtain ⟨i0, hi, hz0, hz1, hz2⟩ := info_parts info23
    have hc := hv.cell
    obtain ⟨Af, cf, rfl⟩ : ∃ Af cf, fv = .slice Af f.length cf := by
      rcases Joins.ownsRow_forms hof with ⟨rfl, h⟩ | ⟨g, cap, rfl⟩
      · exact ⟨none, 0, by rw [h]⟩
      · exact ⟨_, _, rfl⟩
    have hB : w.heap.size ≤ W.heap.size := hk.1
    have hcnt : fs.length + 1 ≤ 1000000 := by have := HBL.out; omega
    have HV := Aside0.mk hv
    have HIn := Aside0.mk (show W.ownsRow w.heap.size 23 1 lv fs.length inner from hin)
    have HReps := Aside0.mk hreps
    have HOf := Aside0.mk hof
    have HNe := Aside0.mk hne
    have HVt := Aside0.mk hvt
    have HKw := Aside0.mk hk
    clear hv hin hreps hof hne hvt hk
    gi_wp2_with (gi_at_builtin; refine wpListIn_append_own _ rfl _ _ 40 rfl w.heap.size 23 i0 (.slice none 0 0) 1 24 Try.underlying40 hi hz0 hz1 hz2 rfl (by decide) _ _ _ rfl (HIn.out.alloc _) ⟨W.heap.size, 0, none⟩ 1 1 [.slice Af f.length cf] rfl rfl (cell_one_new _ _ _) (by simp [Value.oneCell']) (by simp only [maxLen]; omega) (by omega) (by simp; omega) ?_; intro v1 w1 hown' hgrow _; obtain ⟨g', cap', rfl⟩ := ownsRow_succ hown'; obtain ⟨hv1, hv2, hr2, hk2, hb2⟩ := HV.out.appended (by decide) HIn.out hB hsz hown' hgrow; have hc1 := hv1.cell; have hf1 := hv1.frozen; have HV1 := Aside0.mk hv1; have HV2 := Aside0.mk hv2; have HK2' := Aside0.mk hk2; have HB2 := Aside0.mk hb2; have HOwn := Aside0.mk hown'; have HGrow := Aside0.mk hgrow; clear hv1 hv2 hr2 hk2 hb2 hown' hgrow)
    have hkp := kp_snoc (v1 := .slice (some ⟨g', 0, none⟩) (fs.length + 1) cap') HIn.out HGrow.out HV1.out
    have hR := rows_snoc (HReps.out.imp_ (fun _ _ h => Kd.M_below h (below_alloc (Below.refl _ _) _))) (HIn.out.alloc _) (HOf.out.alloc _) HNe.out (fun k hk => by
      obtain ⟨cs, hc⟩ := HVt.out k hk
      exact ⟨cs, blk_alloc hc _⟩) HOwn.out HGrow.out
    refine ⟨HK2'.out, hkp, ⟨_, HV2.out, Kd.R_set hR HV1.out (by decide) 0 _⟩, ⟨⟨Nat.le_trans HKw.out.1 hkp.1, fun i hi hg hr => (HB2.out.block i hi).trans (HKw.out.2 i hi hg hr)⟩, HEw.out.trans hkp.2.2⟩, fun k hk => ?_⟩
    obtain ⟨cs, hc⟩ := HVt.out k hk
    exact ⟨cs, hkp.2.1 k cs 5 (0, 0) hc (by decide) (by decide)⟩
  case hdone =>
    rintro D v' W hD hst' hrow' ⟨⟨lv, hv, hr⟩, ⟨hk, he⟩, _⟩ hv' hK
    have HEw := Aside0.mk he
    clear he
    have hc := hv.cell
    obtain ⟨s0, s1, s2, s3⟩ := cells_st hst'
    clear s0 s2 s3
    have HK := Aside0.mk hK
    have HD := Aside0.mk hD
    have Hst' := Aside0.mk hst'
    have Hrow' := Aside0.mk hrow'
    have HV := Aside0.mk hv
    have HR := Aside0.mk hr
    have HKw := Aside0.mk hk
    have HV' := Aside0.mk hv'
    clear hK hD hst' hrow' hv hr hk hv'
    gi_wp2
    refine wpIn_wide.2 ?_
    go_quiet (fail)
    gi_wp2
    have hK : (W.drewN nq).heap[D]? = some (.deferred (some [])) := HK.out
    have hne : ∀ k cs t, (W.drewN nq).heap[k]? = some (.cells cs t (0, 0)) → k ≠ D := by
      rintro k cs t hk rfl
      rw [hK] at hk
      cases hk
    have hD := HD.out
    have halt := HLt.out
    simp only [World.size_alloc] at hD
    refine ⟨by simp, .inl ⟨_, _, rfl, run_takeDeferred hK, ?_⟩⟩
    refine ⟨_, results_tmp2 rfl _ _ _, lv, v', rfl, (World.putObj_heap_other (by omega)).trans Hst'.out, ownsRow_putObj (W := W.drewN nq) Hrow'.out _ hK rfl, ?_, ?_, ?_⟩
    · exact Kd.R_mono (Kd.R_step (w := W.drewN nq) (Kd.R_bound (w := W.drewN nq) HR.out) (fun k hk hlt => World.putObj_heap_other (by
        obtain ⟨_, _, _, q, _, cells, hc⟩ := hk
        exact hne _ _ _ hc))) (fun k hk => hk.1)
    · intro k hk
      rcases HV'.out k hk with h | h
      · exact .inl h
      · exact HBlk.out k h
    · exact ⟨⟨by simpa using HKw.out.1, fun i hi hg hr => (World.putObj_heap_other (by omega)).trans (HKw.out.2 i hi hg hr)⟩, (HEw.out.drewN_ nq).trans ⟨rfl, rfl, rfl⟩⟩

end Go.Proofs.Ytmemmhalcieelaa.F
