/-
What the reader of flangeref01 gathers, byte by byte, held against what bytes read as (M.V). No program here.
-/
import Derived.Test.YtmemmhalcieelaaWWords
import Derived.Test.YtmemmhalcieelaaM2
import Derived.Lib.Bytes
namespace Go.Proofs.Ytmemmhalcieelaa.M
open Go.RowKit Go.Proofs.YtmemmhalcieelaaW.PrintWords

/-- A power of 128, behind a name. -/
def pw (k : Nat) : Int := 128 ^ k
theorem pw_zero : pw 0 = 1 := rfl
theorem pw_succ (k : Nat) : pw (k + 1) = pw k * 128 := Int.pow_succ _ _
theorem pw_pos (k : Nat) : 0 < pw k := Int.pow_pos (by decide)
theorem pw_le {i j : Nat} (h : i ≤ j) : pw i ≤ pw j := pow_mono i j h
theorem pw_nine : pw 9 = 9223372036854775808 := by decide

/-- All are bytes. -/
def Bytes (l : List Int) : Prop := ∀ x ∈ l, 0 ≤ x ∧ x < 256
theorem Bytes.at {l : List Int} (h : Bytes l) (k : Nat) (hk : k < l.length) : 0 ≤ rd l (k : Int) ∧ rd l (k : Int) < 256 := by
  unfold rd
  rw [Int.toNat_natCast, List.getD_eq_getElem?_getD, List.getElem?_eq_getElem hk]
  exact h _ (List.getElem_mem hk)
theorem Bytes.of_wf {l : List Int} (h : ∀ x ∈ l, (Lit.int .u8 x).wf = true) : Bytes l := by
  intro x hx
  have := h x hx
  simp [Lit.wf, IntKind.min, IntKind.max, IntKind.bits, IntKind.signed] at this
  omega

theorem take_rd {l : List Int} {k : Nat} (hk : k < l.length) : l.take (k + 1) = l.take k ++ [rd l (k : Int)] := by
  rw [List.take_succ_eq_append_getElem hk]
  unfold rd
  rw [Int.toNat_natCast, List.getD_eq_getElem?_getD, List.getElem?_eq_getElem hk]
  rfl
theorem drop_rd {l : List Int} {k : Nat} (hk : k < l.length) : l.drop k = rd l (k : Int) :: l.drop (k + 1) := by
  rw [List.drop_eq_getElem_cons hk]
  unfold rd
  rw [Int.toNat_natCast, List.getD_eq_getElem?_getD, List.getElem?_eq_getElem hk]
  rfl

theorem valOf_append : ∀ (p q : List Int), valOf (p ++ q) = valOf p + pw p.length * valOf q
  | [], q => by simp [valOf, pw]
  | x :: p, q => by
    simp only [List.cons_append, valOf, List.length_cons]
    rw [valOf_append p q, pw_succ, Int.mul_add, Int.mul_comm (pw p.length) 128, Int.mul_assoc, Int.add_assoc]
theorem valOf_snoc (p : List Int) (c : Int) : valOf (p ++ [c]) = valOf p + pw p.length * (c % 128) := by
  rw [valOf_append]
  simp [valOf]
theorem valOf_bd : ∀ (p : List Int), 0 ≤ valOf p ∧ valOf p < pw p.length
  | [] => by simp [valOf, pw]
  | x :: p => by
    have := valOf_bd p
    simp only [valOf, List.length_cons, pw_succ]
    omega

/-- Where the first k bytes go on. -/
def Goes (l : List Int) (k : Nat) : Prop := ∀ j, j < k → 128 ≤ rd l (j : Int)
theorem Goes.succ {l : List Int} {k : Nat} (h : Goes l k) (hk : 128 ≤ rd l (k : Int)) : Goes l (k + 1) := by
  intro j hj
  by_cases e : j = k
  · rw [e]; exact hk
  · exact h j (by omega)
theorem Goes.mem {l : List Int} {k : Nat} (h : Goes l k) (hk : k ≤ l.length) (hb : Bytes l) : ∀ x ∈ l.take k, 128 ≤ x ∧ x < 256 := by
  intro x hx
  obtain ⟨j, hj, rfl⟩ := List.getElem_of_mem hx
  have hj' : j < k := by rw [List.length_take] at hj; omega
  have h1 := h j hj'
  have h2 := hb.at j (by omega)
  unfold rd at h1 h2
  rw [Int.toNat_natCast, List.getD_eq_getElem?_getD, List.getElem?_eq_getElem (by omega)] at h1 h2
  rw [List.getElem_take]
  exact ⟨h1, h2.2⟩

theorem V_at {l : List Int} (hb : Bytes l) : ∀ (k : Nat), k ≤ l.length → k ≤ 9 → Goes l k → V l = rdv k (valOf (l.take k)) (l.drop k)
  | 0, _, _, _ => by simp [V, valOf]
  | k + 1, h1, h2, hg => by
    have hk : k < l.length := h1
    have h3 := hg k (by omega)
    have h4 := hb.at k hk
    rw [V_at hb k (by omega) (by omega) (fun j hj => hg j (by omega)), drop_rd hk, rdv, if_neg (by omega), if_neg (by omega), take_rd hk, valOf_snoc, List.length_take, Nat.min_eq_left (by omega), Int.mul_comm]
    rw [show rd l (k : Int) % 128 = rd l (k : Int) - 128 by omega]
    rfl

/-- The bytes end too early. -/
theorem V_short {l : List Int} (hb : Bytes l) (h9 : l.length ≤ 9) (hg : Goes l l.length) : V l = (0, 0, 5) := by
  rw [V_at hb l.length (Nat.le_refl _) h9 hg, List.drop_length]
  rfl
/-- A tenth byte other than 1. -/
theorem V_tenth {l : List Int} (hb : Bytes l) (h9 : 9 < l.length) (hg : Goes l 9) (h1 : rd l 9 ≠ 1) : V l = (0, 0, 4) := by
  rw [V_at hb 9 (by omega) (by omega) hg, drop_rd h9, rdv]
  rw [show ((9 : Nat) : Int) = 9 from rfl]
  by_cases c : rd l 9 < 128
  · rw [if_pos c, if_pos (.inr ⟨rfl, h1⟩)]
  · rw [if_neg c, if_pos rfl]

theorem acc_lt {l : List Int} (hb : Bytes l) {k : Nat} (hk : k < l.length) (h9 : k ≤ 9) (h1 : k = 9 → rd l (k : Int) = 1) : valOf (l.take (k + 1)) < 18446744073709551616 := by
  have h4 := hb.at k hk
  have hv := valOf_bd (l.take k)
  have hv1 := valOf_bd (l.take (k + 1))
  have hp := pw_pos k
  rw [List.length_take, Nat.min_eq_left (by omega)] at hv hv1
  by_cases c : k = 9
  · have e : valOf (l.take (k + 1)) = valOf (l.take k) + rd l (k : Int) % 128 * pw k := by
      rw [take_rd hk, valOf_snoc, List.length_take, Nat.min_eq_left (by omega), Int.mul_comm]
    rw [e, h1 c]
    subst c
    rw [pw_nine] at *
    omega
  · have := pw_le (show k + 1 ≤ 9 by omega)
    rw [pw_nine] at this
    omega

/-- What is gathered behind one byte more. -/
theorem acc_step {l : List Int} (hb : Bytes l) {k : Nat} (hk : k < l.length) (h9 : k ≤ 9) (h1 : k = 9 → rd l (k : Int) = 1) :
    IntKind.u64.wrap (valOf (l.take k) + IntKind.u64.wrap (rd l (k : Int) % 128 * pw k)) = valOf (l.take (k + 1)) := by
  have h4 := hb.at k hk
  have hv := valOf_bd (l.take k)
  have hv1 := valOf_bd (l.take (k + 1))
  have hp := pw_pos k
  rw [List.length_take, Nat.min_eq_left (by omega)] at hv hv1
  have e : valOf (l.take (k + 1)) = valOf (l.take k) + rd l (k : Int) % 128 * pw k := by
    rw [take_rd hk, valOf_snoc, List.length_take, Nat.min_eq_left (by omega), Int.mul_comm]
  have hlt : valOf (l.take (k + 1)) < 18446744073709551616 := by
    by_cases c : k = 9
    · rw [e, h1 c]
      subst c
      rw [pw_nine] at *
      omega
    · have := pw_le (show k + 1 ≤ 9 by omega)
      rw [pw_nine] at this
      omega
  have hm : 0 ≤ rd l (k : Int) % 128 * pw k := Int.mul_nonneg (by omega) (by omega)
  rw [e] at hlt ⊢
  simp only [IntKind.wrap_u64]
  rw [Int.emod_eq_of_lt (a := rd l (k : Int) % 128 * pw k) hm (by omega), Int.emod_eq_of_lt (by omega) hlt]

theorem by_step {k : Nat} (h9 : k < 9) : IntKind.u64.wrap (pw k * 128) = pw (k + 1) := by
  have := pw_le (show k + 1 ≤ 9 by omega)
  have hp := pw_pos (k + 1)
  rw [pw_nine] at this
  rw [← pw_succ, IntKind.wrap_u64, Int.emod_eq_of_lt (by omega) (by omega)]

/-- The last byte: it is the number, if these are its bytes. -/
theorem V_last {l : List Int} (hb : Bytes l) {k : Nat} (hk : k < l.length) (h9 : k ≤ 9) (hg : Goes l k) (h1 : k = 9 → rd l (k : Int) = 1) (hc : rd l (k : Int) < 128) :
    (E (valOf (l.take (k + 1))) = l.take (k + 1) → V l = (valOf (l.take (k + 1)), (k : Int) + 1, 0)) ∧ (E (valOf (l.take (k + 1))) ≠ l.take (k + 1) → V l = (0, 0, 4)) := by
  have h4 := hb.at k hk
  have hm := hg.mem (by omega) hb
  have hl : (l.take k).length = k := by rw [List.length_take]; omega
  rw [V_at hb k (by omega) h9 hg, drop_rd hk, rdv, if_pos hc, take_rd hk]
  by_cases c : rd l (k : Int) = 0 ∧ 0 < k
  · rw [if_pos (.inl c)]
    refine ⟨fun h => ?_, fun _ => rfl⟩
    rw [c.1] at h
    have hv := valOf_bd (l.take k ++ [0])
    have hle := pw_le (show (l.take k ++ [(0 : Int)]).length ≤ 10 by simp; omega)
    have := enc_last 9 _ _ hv.1 (Int.lt_of_lt_of_le hv.2 hle) h
    rw [this] at hl
    simp at hl
    omega
  · have hn : ¬ ((rd l (k : Int) = 0 ∧ 0 < k) ∨ (k = 9 ∧ rd l (k : Int) ≠ 1)) := by
      rintro (h | ⟨h, h'⟩)
      · exact c h
      · exact h' (h1 h)
    rw [if_neg hn]
    have he := enc_valOf (l.take k) (rd l (k : Int)) 9 (by omega) hm h4.1 hc (fun hne => by
      have : 0 < k := by rw [← hl]; exact List.length_pos_iff.2 hne
      have := h4.1
      by_cases z : rd l (k : Int) = 0
      · exact absurd ⟨z, ‹0 < k›⟩ c
      · omega)
    refine ⟨fun _ => ?_, fun h => absurd he h⟩
    rw [valOf_snoc, hl, Int.mul_comm (pw k)]
    rw [Int.emod_eq_of_lt h4.1 hc]
    rfl

theorem rdv_inv : ∀ (l : List Int) (i : Nat) (acc n j : Int), Bytes l → rdv i acc l = (n, j, 0) →
    ∃ (p : List Int) (c : Int) (rest : List Int), l = p ++ [c] ++ rest ∧ (∀ x ∈ p, 128 ≤ x ∧ x < 256) ∧ 0 ≤ c ∧ c < 128 ∧ ((p ≠ [] ∨ 0 < i) → 0 < c) ∧ (i ≤ 9 → i + p.length ≤ 9) ∧ n = acc + pw i * valOf (p ++ [c]) ∧ j = i + p.length + 1
  | [], i, acc, n, j, _, h => by simp [rdv] at h
  | c :: cs, i, acc, n, j, hb, h => by
    have hc := hb c (List.mem_cons_self ..)
    rw [rdv] at h
    by_cases c1 : c < 128
    · rw [if_pos c1] at h
      by_cases c2 : (c = 0 ∧ 0 < i) ∨ (i = 9 ∧ c ≠ 1)
      · rw [if_pos c2] at h; simp at h
      · rw [if_neg c2] at h
        simp only [Prod.mk.injEq, and_true] at h
        refine ⟨[], c, cs, by simp, by simp, hc.1, c1, fun hh => ?_, fun _ => by simpa using ‹i ≤ 9›, ?_, by simp; omega⟩
        · rcases hh with hh | hh
          · exact absurd rfl hh
          · omega
        · rw [← h.1, List.nil_append, valOf, valOf, Int.mul_zero, Int.add_zero, Int.emod_eq_of_lt hc.1 c1, Int.mul_comm]
          rfl
    · rw [if_neg c1] at h
      by_cases c2 : i = 9
      · rw [if_pos c2] at h; simp at h
      · rw [if_neg c2] at h
        obtain ⟨p, d, rest, e, hp, hd0, hd1, hd, hl, hn, hj⟩ := rdv_inv cs (i + 1) _ n j (fun x hx => hb x (List.mem_cons_of_mem _ hx)) h
        refine ⟨c :: p, d, rest, by rw [e]; simp, fun x hx => ?_, hd0, hd1, fun _ => hd (.inr (Nat.succ_pos _)), fun h9 => ?_, ?_, ?_⟩
        · rcases List.mem_cons.1 hx with hx | hx
          · subst hx; omega
          · exact hp x hx
        · have := hl (by omega)
          simp only [List.length_cons]
          omega
        · rw [hn, List.cons_append, valOf, pw_succ, Int.mul_add, show c % 128 = c - 128 by omega, Int.mul_assoc, Int.mul_comm (c - 128), Int.add_assoc]
          rfl
        · rw [hj, List.length_cons]; omega

/-- Bytes that read as a number begin with its bytes. -/
theorem V_inv {l : List Int} (hb : Bytes l) {n j : Int} (h : V l = (n, j, 0)) : ∃ rest, l = E n ++ rest ∧ j = ((E n).length : Int) ∧ 0 ≤ n ∧ n < 18446744073709551616 := by
  obtain ⟨p, c, rest, e, hp, hc0, hc1, hc, hl, hn, hj⟩ := rdv_inv l 0 0 n j hb h
  have hl' := hl (by decide)
  rw [pw_zero, Int.one_mul, Int.zero_add] at hn
  have hE : E n = p ++ [c] := by
    rw [hn]
    exact enc_valOf p c 9 (by omega) hp hc0 hc1 (fun h => hc (.inl h))
  have hr : 0 ≤ n ∧ n < 18446744073709551616 := by
    rcases rdv_tells l 0 0 (by decide) (by decide) (by decide) hb with h' | h' | ⟨n', j', h', h0, h1, _⟩
    · rw [V] at h; rw [h'] at h; simp at h
    · rw [V] at h; rw [h'] at h; simp at h
    · rw [V] at h; rw [h'] at h
      simp only [Prod.mk.injEq, and_true] at h
      rw [← h.1]; exact ⟨h0, h1⟩
  exact ⟨rest, by rw [hE]; exact e, by rw [hE, hj]; simp, hr⟩

/-! Bytes as text. -/
theorem ofNats_inj : ∀ {p q : List Int}, Bytes p → Bytes q → (p.map fun n => UInt8.ofNat n.toNat) = (q.map fun n => UInt8.ofNat n.toNat) → p = q
  | [], [], _, _, _ => rfl
  | [], y :: q, _, _, h => by simp at h
  | x :: p, [], _, _, h => by simp at h
  | x :: p, y :: q, hp, hq, h => by
    simp only [List.map_cons, List.cons.injEq] at h
    have hx := hp x (List.mem_cons_self ..)
    have hy := hq y (List.mem_cons_self ..)
    have e := congrArg UInt8.toNat h.1
    simp only [UInt8.toNat_ofNat'] at e
    rw [ofNats_inj (fun z hz => hp z (List.mem_cons_of_mem _ hz)) (fun z hz => hq z (List.mem_cons_of_mem _ hz)) h.2]
    congr 1
    omega
theorem str_inj {p q : List Int} (hp : Bytes p) (hq : Bytes q) (h : (strOfNums p).toList = (strOfNums q).toList) : p = q := by
  rw [Lib.strOfNums_toList, Lib.strOfNums_toList] at h
  exact ofNats_inj hp hq h
theorem str_eq {p q : List Int} (hp : Bytes p) (hq : Bytes q) : ((strOfNums p).toList == (strOfNums q).toList) = decide (p = q) := by
  by_cases h : p = q
  · subst h; simp
  · rw [decide_eq_false h, beq_eq_false_iff_ne]
    exact fun e => h (str_inj hp hq e)
theorem str_ne {p q : List Int} (hp : Bytes p) (hq : Bytes q) : ((strOfNums p).toList != (strOfNums q).toList) = decide (p ≠ q) := by
  rw [bne, str_eq hp hq]
  by_cases h : p = q <;> simp [h]
theorem Bytes.take {l : List Int} (h : Bytes l) (k : Nat) : Bytes (l.take k) := fun x hx => h x (List.mem_of_mem_take hx)
theorem Bytes.drop {l : List Int} (h : Bytes l) (k : Nat) : Bytes (l.drop k) := fun x hx => h x (List.mem_of_mem_drop hx)
theorem Bytes.append {p q : List Int} (hp : Bytes p) (hq : Bytes q) : Bytes (p ++ q) := fun x hx => (List.mem_append.1 hx).elim (hp x) (hq x)
theorem Bytes.E {n : Int} (h0 : 0 ≤ n) (h1 : n < 18446744073709551616) : Bytes (E n) := E_bytes h0 h1

end Go.Proofs.Ytmemmhalcieelaa.M
