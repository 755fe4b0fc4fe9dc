/-
What the small functions of varint and flangeref01 come to: contracts at plain functions (M.E: a number's bytes; M.V: what bytes read as).
-/
import Derived.Test.YtmemmhalcieelaaVb
import Derived.Test.YtmemmhalcieelaaM3
namespace Go.Proofs.Ytmemmhalcieelaa.V
open Go.RowKit Go.Proofs.YtmemmhalcieelaaW.PrintWords Go.Proofs.YtmemmhalcieelaaW.PrintLast Go.Proofs.YtmemmhalcieelaaW.PrintMore

theorem or128 (n : Int) : Go.bits .or .u8 (n % 256) 128 = n % 128 + 128 := by
  have key : ∀ a : Fin 256, Go.bits .or .u8 (a.val : Int) 128 = (a.val : Int) % 128 + 128 := by decide +kernel
  have := key ⟨(n % 256).toNat, by omega⟩
  simp only at this
  rw [show (((n % 256).toNat : Nat) : Int) = n % 256 by omega] at this
  rw [this]
  omega

theorem append_l0 : ∀ (d : Nat) (n : Int) (l : List Int) (k : Nat), 0 ≤ n → n < 128 ^ (d + 1) → l.length + d < 140737488355328 → d < k → varint_Append.l0 k l n = some (l ++ M.enc d n)
  | d, n, l, k, h0, h1, hl, hk => by
    obtain ⟨k, rfl⟩ : ∃ m, k = m + 1 := ⟨k - 1, by omega⟩
    simp only [varint_Append.l0]
    by_cases c : n < 128
    · rw [if_neg (by omega), if_pos (by omega), M.enc_small d n c, Int.emod_eq_of_lt h0 (by omega)]
    · cases d with
      | zero => simp at h1; omega
      | succ d =>
        rw [if_pos (by omega), if_pos (by omega), append_l0 d (n / 128) _ k (by omega) (by rw [Int.pow_succ] at h1; omega) (by simp; omega) (by omega), M.enc_big d n c, or128 n]
        simp

theorem append_f (n : Int) (l : List Int) (h0 : 0 ≤ n) (h1 : n < 18446744073709551616) (hl : l.length + 9 < 140737488355328) : varint_Append.f 10 l n = some (l ++ M.E n) :=
  append_l0 9 n l 10 h0 (M.pow10 h1) hl (by decide)

theorem bytes_end (k : Nat) (l : List Int) (hk : 2 ≤ k) : flangeref01_Bytes.l0 k 0 l false = some l := by
  obtain ⟨k, rfl⟩ : ∃ m, k = m + 1 + 1 := ⟨k - 2, by omega⟩
  simp [flangeref01_Bytes.l0, flangeref01_Bytes.j1]

theorem bytes_l0 : ∀ (d : Nat) (n : Int) (l : List Int) (k : Nat) (b : Bool), 0 ≤ n → n < 128 ^ (d + 1) → n < 18446744073709551616 → (b = true ∨ 0 < n) → l.length + d < 140737488355328 → 2 * d + 4 ≤ k →
    flangeref01_Bytes.l0 k n l b = some (l ++ M.enc d n)
  | d, n, l, k, b, h0, h1, h2, hb, hl, hk => by
    obtain ⟨k, rfl⟩ : ∃ m, k = m + 1 + 1 := ⟨k - 2, by omega⟩
    have hj : flangeref01_Bytes.l0 (k + 1 + 1) n l b = flangeref01_Bytes.j1 (k + 1) n l true := by
      simp only [flangeref01_Bytes.l0]
      rcases hb with hb | hb
      · rw [if_pos hb]
      · split
        · rfl
        · rw [decide_eq_true (show n > 0 from hb)]
    rw [hj]
    simp only [flangeref01_Bytes.j1, if_true]
    have hdiv : IntKind.u64.wrap (Int.tdiv n 128) = n / 128 := by
      rw [Int.tdiv_eq_ediv_of_nonneg h0, IntKind.wrap_u64]
      omega
    have hmod : Int.tmod n 128 = n % 128 := Int.tmod_eq_emod_of_nonneg h0
    rw [hdiv, hmod]
    by_cases c : n < 128
    · rw [if_neg (by omega), if_pos (by omega), show n / 128 = 0 by omega, bytes_end _ _ (by omega), M.enc_small d n c, show n % 128 % 256 = n by omega]
    · cases d with
      | zero => simp at h1; omega
      | succ d =>
        rw [if_pos (by omega), if_pos (by omega), bytes_l0 d (n / 128) _ k false (by omega) (by rw [Int.pow_succ] at h1; omega) (by omega) (.inr (by omega)) (by simp; omega) (by omega), M.enc_big d n c, show (n % 128 + 128) % 256 = n % 128 + 128 by omega]
        simp

theorem bytes_f (n : Int) (h0 : 0 ≤ n) (h1 : n < 18446744073709551616) : flangeref01_Bytes.f 30 n = some (M.E n) := by
  have := bytes_l0 9 n [] 30 true h0 (M.pow10 h1) h1 (.inl rfl) (by decide) (by decide)
  simpa [flangeref01_Bytes.f, M.E] using this

/-- flangeref01.Bytes: a number's bytes, in memory of the call's own. -/
theorem bytes_c (n : Int) (w : World) (h0 : 0 ≤ n) (h1 : n < 18446744073709551616) :
    Calls Try.prog 35 #[.int .u64 n] w fun e w' => ∃ v : Value, e = .returned v ∧ Kd.R (Kd.int .u8) 5 w' w.heap.size (fun _ => True) v (M.E n) ∧ Below w.heap.size w w' :=
  flangeref01_Bytes.calls 30 n _ w (bytes_f n h0 h1)

/-- varint.Append to what the call owns (nil too). -/
theorem append_c (P0 : Nat → Prop) (u : Value) (l : List Int) (n : Int) (w0 w : World) (h0 : 0 ≤ n) (h1 : n < 18446744073709551616) (hl : l.length + 9 < 140737488355328) (hB : Below w0.heap.size w0 w) (ho : Kd.R (Kd.int .u8) 5 w w0.heap.size P0 u l) :
    Calls Try.prog 15 #[u, .int .u64 n] w fun e w' => ∃ v : Value, e = .returned v ∧ Kd.R (Kd.int .u8) 5 w' w0.heap.size (fun k => P0 k ∨ w.heap.size ≤ k) v (l ++ M.E n) ∧ Below w0.heap.size w0 w' ∧ Kept w w' (fun k => P0 k) :=
  varint_Append.calls 10 P0 u l n _ w0 w hB ho (append_f n l h0 h1 hl)

theorem end_f (k : Nat) (c i : Int) (hk : 1 ≤ k) : varint_end.f k c i = some (if (c = 0 ∧ 0 < i) ∨ (i = 9 ∧ c ≠ 1) then 4 else 0) := by
  obtain ⟨k, rfl⟩ : ∃ m, k = m + 1 := ⟨k - 1, by omega⟩
  simp only [varint_end.f, varint_end.j0]
  by_cases c0 : c = 0
  · rw [if_pos c0]
    by_cases ci : 0 < i
    · rw [if_pos (by simpa using ci), if_pos (.inl ⟨c0, ci⟩)]
    · have : ¬ ((c = 0 ∧ 0 < i) ∨ (i = 9 ∧ c ≠ 1)) := by omega
      rw [if_neg (by simpa using ci), if_neg (by omega), if_neg this]
  · rw [if_neg c0, if_neg (by decide)]
    by_cases ci : i = 9
    · rw [if_pos ci]
      by_cases c1 : c = 1
      · have : ¬ ((c = 0 ∧ 0 < i) ∨ (i = 9 ∧ c ≠ 1)) := by omega
        rw [if_pos c1, if_neg this]
      · rw [if_neg c1, if_pos (.inr ⟨ci, c1⟩)]
    · have : ¬ ((c = 0 ∧ 0 < i) ∨ (i = 9 ∧ c ≠ 1)) := by omega
      rw [if_neg ci, if_neg this]

/-- Bits that stand apart are added. -/
theorem or_add (x c : Int) (i : Nat) (h0 : 0 ≤ x) (h1 : x < 2 ^ i) (hc : 0 ≤ c) (hs : x + c * 2 ^ i < 18446744073709551616) : Go.bits .or .u64 x (c * 2 ^ i) = x + c * 2 ^ i := by
  obtain ⟨a, rfl⟩ := Int.eq_ofNat_of_zero_le h0
  obtain ⟨b, rfl⟩ := Int.eq_ofNat_of_zero_le hc
  have ha : a < 2 ^ i := by exact_mod_cast h1
  have hs1 : ((a + b * 2 ^ i : Nat) : Int) < 18446744073709551616 := by push_cast; exact hs
  have hs' : a + b * 2 ^ i < 18446744073709551616 := by omega
  have e : ((b : Int) * 2 ^ i) = ((2 ^ i * b : Nat) : Int) := by rw [Nat.mul_comm]; simp
  rw [e, (bits_nat .u64 64 (by decide) (fun n h0 h1 => by rw [IntKind.wrap_u64]; omega) a (2 ^ i * b) (by omega) (by rw [Nat.mul_comm]; omega)).2, Nat.or_comm, ← Nat.two_pow_add_eq_or_of_lt ha]
  simp
  omega

theorem pw_two (i : Nat) : M.pw i = 2 ^ (7 * i) := by
  unfold M.pw
  rw [Int.pow_mul, show (2 : Int) ^ 7 = 128 by decide]

theorem shl_u64 (c : Int) (i : Nat) (h9 : i ≤ 9) (h0 : 0 ≤ c) (h1 : c * M.pw i < 18446744073709551616) : shl .u64 c (7 * (i : Int)) = c * 2 ^ (7 * i) := by
  have : (7 * (i : Int)).toNat = 7 * i := by omega
  have hk : IntKind.u64.bits = 64 := rfl
  unfold shl
  rw [this, hk, Nat.min_eq_left (by omega), IntKind.wrap_u64]
  rw [pw_two] at h1
  exact Int.emod_eq_of_lt (Int.mul_nonneg h0 (Int.le_of_lt (Int.pow_pos (by decide)))) h1

theorem read_l0 : ∀ (m k i : Nat) (acc : Int) (l : List Int), M.Bytes l → l.length ≤ 140737488351232 → i ≤ l.length → l.length - i = m → i ≤ 9 → 0 ≤ acc → acc < M.pw i → m < k →
    varint_Read.l0 (k + 1) acc l (l.length : Int) (i : Int) = some (M.rdv i acc (l.drop i))
  | m, k, i, acc, l, hb, hl, hi, hm, h9, h0, h1, hk => by
    simp only [varint_Read.l0]
    by_cases hlt : i < l.length
    · have hc := hb.at i hlt
      rw [if_pos (by omega), if_pos (by omega), if_pos (by omega), M.drop_rd hlt, M.rdv]
      have w7 : wrap64 (7 * (i : Int)) = 7 * (i : Int) := by unfold wrap64; omega
      have w1 : wrap64 ((i : Int) + 1) = ((i + 1 : Nat) : Int) := by unfold wrap64; omega
      have hp := M.pw_pos i
      have e1 : M.pw (i + 1) = M.pw i * 128 := M.pw_succ i
      have hp9 : M.pw i ≤ M.pw 9 := M.pw_le h9
      rw [M.pw_nine] at hp9
      by_cases c1 : rd l (i : Int) < 128
      · rw [if_pos c1, if_pos c1, end_f k _ _ (by omega)]
        simp only [Option.bind_some]
        by_cases c2 : (rd l (i : Int) = 0 ∧ 0 < i) ∨ (i = 9 ∧ rd l (i : Int) ≠ 1)
        · have c2' : (rd l (i : Int) = 0 ∧ 0 < (i : Int)) ∨ ((i : Int) = 9 ∧ rd l (i : Int) ≠ 1) := by omega
          rw [if_pos c2', if_pos c2, if_neg (by decide)]
        · have c2' : ¬ ((rd l (i : Int) = 0 ∧ 0 < (i : Int)) ∨ ((i : Int) = 9 ∧ rd l (i : Int) ≠ 1)) := by omega
          rw [if_neg c2', if_neg c2, if_pos rfl, w7, if_pos (by omega)]
          have hm0 : 0 ≤ rd l (i : Int) * M.pw i := Int.mul_nonneg (by omega) (by omega)
          have hsum : acc + rd l (i : Int) * M.pw i < 18446744073709551616 := by
            by_cases e9 : i = 9
            · have h1' : rd l (i : Int) = 1 := by omega
              rw [h1']
              omega
            · have := M.pw_le (show i + 1 ≤ 9 by omega)
              rw [M.pw_nine] at this
              have hx : rd l (i : Int) * M.pw i ≤ 127 * M.pw i := Int.mul_le_mul_of_nonneg_right (by omega) (by omega)
              omega
          have hwr : IntKind.u64.wrap (rd l (i : Int)) = rd l (i : Int) := by rw [IntKind.wrap_u64]; omega
          rw [hwr, shl_u64 _ i h9 hc.1 (by omega), or_add acc _ (7 * i) h0 (by rw [← pw_two]; exact h1) hc.1 (by rw [← pw_two]; exact hsum), ← pw_two, w1]
          simp [M.pw]
      · rw [if_neg c1, if_neg c1]
        by_cases c2 : i = 9
        · rw [if_pos (by omega), if_pos c2]
        · have hm0 : 0 ≤ (rd l (i : Int) - 128) * M.pw i := Int.mul_nonneg (by omega) (by omega)
          have hx : (rd l (i : Int) - 128) * M.pw i ≤ 127 * M.pw i := Int.mul_le_mul_of_nonneg_right (by omega) (by omega)
          have h9' := M.pw_le (show i + 1 ≤ 9 by omega)
          rw [M.pw_nine] at h9'
          rw [if_neg (by omega), if_neg c2, w7, if_pos (by omega), show (rd l (i : Int) - 128) % 256 = rd l (i : Int) - 128 by omega]
          rw [shl_u64 _ i h9 (by omega) (by omega), or_add acc _ (7 * i) h0 (by rw [← pw_two]; exact h1) (by omega) (by rw [← pw_two]; omega), ← pw_two, w1]
          obtain ⟨k, rfl⟩ : ∃ j, k = j + 1 := ⟨k - 1, by omega⟩
          rw [read_l0 (m - 1) k (i + 1) _ l hb hl hlt (by omega) (by omega) (by omega) (by omega) (by omega)]
          rfl
    · rw [if_neg (by omega), List.drop_of_length_le (by omega)]
      rfl
  termination_by m => m

theorem read_f (l : List Int) (hb : M.Bytes l) (hl : l.length ≤ 140737488351232) : varint_Read.f (l.length + 2) l = some (M.V l) := by
  have := read_l0 l.length (l.length + 1) 0 0 l hb hl (Nat.zero_le _) rfl (by decide) (by decide) (by decide) (by omega)
  simpa [varint_Read.f, M.V] using this

/-- varint.Read. -/
theorem read_c (A0 : Option Addr) (c0 : Nat) (l : List Int) (w : World) (hr : Kd.C (Kd.int .u8) w A0 l.length l) (hc : l.length ≤ c0) (hb : M.Bytes l) (hl : l.length ≤ 140737488351232) :
    Calls Try.prog 37 #[.slice A0 l.length c0] w fun e w' => e = .returned (.tuple #[.int .u64 (M.V l).1, .int .i64 (M.V l).2.1, .int .i64 (M.V l).2.2]) ∧ Drawn0 w w' :=
  varint_Read.calls (l.length + 2) A0 c0 l _ _ _ w hr hc (read_f l hb hl)

end Go.Proofs.Ytmemmhalcieelaa.V
