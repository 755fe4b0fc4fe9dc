/-
Zigzag: what Zig, Zag, AppendInt, ReadInt and the reference's Zig come to.
-/
import Derived.Test.YtmemmhalcieelaaVd
namespace Go.Proofs.Ytmemmhalcieelaa.V
open Go.RowKit Go.Proofs.YtmemmhalcieelaaW.PrintWords Go.Proofs.YtmemmhalcieelaaW.PrintLast Go.Proofs.YtmemmhalcieelaaW.PrintMore

/-- An int's zigzag. -/
def zig (n : Int) : Int := if 0 ≤ n then 2 * n else -2 * n - 1
/-- The int of a zigzag. -/
def zag (u : Int) : Int := if u % 2 = 0 then u / 2 else -(u / 2) - 1

theorem zag_zig (n : Int) : zag (zig n) = n := by
  unfold zag zig
  split <;> split <;> omega
theorem zig_zag (u : Int) (h : 0 ≤ u) : zig (zag u) = u := by
  unfold zag zig
  split <;> split <;> omega
theorem zig_range (n : Int) (h0 : -9223372036854775808 ≤ n) (h1 : n ≤ 9223372036854775807) : 0 ≤ zig n ∧ zig n < 18446744073709551616 := by
  unfold zig
  split <;> omega
theorem zag_range (u : Int) (h0 : 0 ≤ u) (h1 : u < 18446744073709551616) : -9223372036854775808 ≤ zag u ∧ zag u ≤ 9223372036854775807 := by
  unfold zag
  split <;> omega

theorem xor_ones (a : Nat) (ha : a < 18446744073709551616) : a ^^^ 18446744073709551615 = 18446744073709551615 - a := by
  have h := congrArg BitVec.toNat (BitVec.xor_allOnes (x := BitVec.ofNat 64 a))
  rw [BitVec.toNat_xor, BitVec.toNat_not, BitVec.toNat_ofNat, BitVec.toNat_allOnes, Nat.mod_eq_of_lt (by omega)] at h
  simpa using h

theorem zig_f (n : Int) (h0 : -9223372036854775808 ≤ n) (h1 : n ≤ 9223372036854775807) : varint_Zig.f n = some (zig n) := by
  unfold varint_Zig.f
  congr 1
  unfold zig
  simp only [IntKind.wrap_u64]
  by_cases c : 0 ≤ n
  · rw [if_pos c, show n / 9223372036854775808 % 18446744073709551616 = 0 by omega]
    obtain ⟨a, rfl⟩ := Int.eq_ofNat_of_zero_le c
    rw [show (a : Int) % 18446744073709551616 * 2 % 18446744073709551616 = ((2 * a : Nat) : Int) by omega]
    have := bits_xor_u64_nat (2 * a) 0 (by omega) (by decide)
    rw [Nat.xor_zero] at this
    rw [show ((0 : Nat) : Int) = 0 from rfl] at this
    rw [this]
    omega
  · rw [if_neg c, show n / 9223372036854775808 % 18446744073709551616 = ((18446744073709551615 : Nat) : Int) by omega]
    obtain ⟨a, ha⟩ := Int.eq_ofNat_of_zero_le (show 0 ≤ n % 18446744073709551616 * 2 % 18446744073709551616 by omega)
    rw [ha, bits_xor_u64_nat a 18446744073709551615 (by omega) (by decide), xor_ones a (by omega)]
    omega

theorem bits_xor_i64_zero (x : Int) (h0 : 0 ≤ x) (h1 : x < 9223372036854775808) : Go.bits .xor .i64 x 0 = x := by
  obtain ⟨a, rfl⟩ := Int.eq_ofNat_of_zero_le h0
  show IntKind.i64.wrap ((BitVec.ofInt 64 (a : Int) ^^^ BitVec.ofInt 64 0).toNat : Int) = _
  rw [show BitVec.ofInt 64 0 = 0#64 from rfl, BitVec.xor_zero, BitVec.ofInt_natCast, BitVec.toNat_ofNat, IntKind.wrap_i64]
  omega
theorem bits_xor_i64_ones (x : Int) (h0 : 0 ≤ x) (h1 : x < 9223372036854775808) : Go.bits .xor .i64 x (-1) = -x - 1 := by
  obtain ⟨a, rfl⟩ := Int.eq_ofNat_of_zero_le h0
  show IntKind.i64.wrap ((BitVec.ofInt 64 (a : Int) ^^^ BitVec.ofInt 64 (-1)).toNat : Int) = _
  rw [show BitVec.ofInt 64 (-1) = BitVec.allOnes 64 by decide, BitVec.xor_allOnes, BitVec.ofInt_natCast, BitVec.toNat_not, BitVec.toNat_ofNat, IntKind.wrap_i64]
  omega

theorem zag_f (u : Int) (h0 : 0 ≤ u) (h1 : u < 18446744073709551616) : varint_Zag.f u = some (zag u) := by
  unfold varint_Zag.f
  congr 1
  have hm := bits_mask .u64 64 (by decide) (fun n h0 h1 => by rw [IntKind.wrap_u64]; omega) 1 (by decide) u h0 (by omega)
  rw [show ((2 : Int) ^ 1 - 1) = 1 by decide, show ((2 : Int) ^ 1) = 2 by decide] at hm
  rw [hm]
  have e1 : wrap64 (u / 2) = u / 2 := by unfold wrap64; omega
  have e2 : wrap64 (-(wrap64 (u % 2))) = -(u % 2) := by unfold wrap64; omega
  rw [e1, e2]
  unfold zag
  by_cases c : u % 2 = 0
  · rw [if_pos c, c, show -(0 : Int) = 0 from rfl]
    exact bits_xor_i64_zero _ (by omega) (by omega)
  · rw [if_neg c, show u % 2 = 1 by omega]
    exact bits_xor_i64_ones _ (by omega) (by omega)

theorem refzig_f (n : Int) (h0 : -9223372036854775808 ≤ n) (h1 : n ≤ 9223372036854775807) : flangeref01_Zig.f n = some (zig n) := by
  unfold flangeref01_Zig.f zig
  simp only [IntKind.wrap_u64, wrap64]
  by_cases c : 0 ≤ n
  · rw [if_pos c, if_pos c]
    congr 1
    omega
  · rw [if_neg c, if_neg c]
    congr 1
    omega

theorem zig_c (n : Int) (w : World) (h0 : -9223372036854775808 ≤ n) (h1 : n ≤ 9223372036854775807) :
    Calls Try.prog 39 #[.int .i64 n] w fun e w' => e = .returned (.int .u64 (zig n)) ∧ Drawn0 w w' := varint_Zig.calls n _ w (zig_f n h0 h1)
theorem refzig_c (n : Int) (w : World) (h0 : -9223372036854775808 ≤ n) (h1 : n ≤ 9223372036854775807) :
    Calls Try.prog 42 #[.int .i64 n] w fun e w' => e = .returned (.int .u64 (zig n)) ∧ Drawn0 w w' := flangeref01_Zig.calls n _ w (refzig_f n h0 h1)
theorem zag_c (u : Int) (w : World) (h0 : 0 ≤ u) (h1 : u < 18446744073709551616) :
    Calls Try.prog 43 #[.int .u64 u] w fun e w' => e = .returned (.int .i64 (zag u)) ∧ Drawn0 w w' := varint_Zag.calls u _ w (zag_f u h0 h1)

/-- What bytes read as is a number of 64 bits. -/
theorem V_range {l : List Int} (hb : M.Bytes l) : 0 ≤ (M.V l).1 ∧ (M.V l).1 < 18446744073709551616 := by
  rcases M.rdv_tells l 0 0 (by decide) (by decide) (by decide) hb with h | h | ⟨n, j, h, h0, h1, _⟩
  · rw [M.V, h]; decide
  · rw [M.V, h]; decide
  · rw [M.V, h]; exact ⟨h0, h1⟩

/-- varint.ReadInt. -/
theorem readint_c (A0 : Option Addr) (c0 : Nat) (l : List Int) (w : World) (hr : Kd.C (Kd.int .u8) w A0 l.length l) (hc : l.length ≤ c0) (hb : M.Bytes l) (hl : l.length ≤ 140737488351232) :
    Calls Try.prog 41 #[.slice A0 l.length c0] w fun e w' => e = .returned (.tuple #[.int .i64 (zag (M.V l).1), .int .i64 (M.V l).2.1, .int .i64 (M.V l).2.2]) ∧ Drawn0 w w' := by
  refine varint_ReadInt.calls (l.length + 2) A0 c0 l _ _ _ w hr hc ?_
  unfold varint_ReadInt.f
  rw [read_f l hb hl]
  simp only [Option.bind_some]
  rw [zag_f _ (V_range hb).1 (V_range hb).2]
  rfl

/-- varint.AppendInt to nil. -/
theorem appendint_c (n : Int) (w : World) (h0 : -9223372036854775808 ≤ n) (h1 : n ≤ 9223372036854775807) :
    Calls Try.prog 40 #[.slice none 0 0, .int .i64 n] w fun e w' => ∃ v : Value, e = .returned v ∧ Kd.R (Kd.int .u8) 5 w' w.heap.size (fun _ => True) v (M.E (zig n)) ∧ Below w.heap.size w w' := by
  have hz := zig_range n h0 h1
  have hz1 := hz.1
  have hz2 := hz.2
  clear hz
  go_enter Try.func40, Try.ntmps40
  go_wp2_with (first | (go_at_call 39; refine (zig_c n _ h0 h1).mono ?_; rintro e w' ⟨rfl, ⟨nd, rfl⟩⟩) | (go_at_call 15; refine (append_c (fun _ => True) (.slice none 0 0) [] (zig n) w _ hz1 hz2 (by decide) ?hB ?hO).mono ?_; (case hB => exact pw_below_drewN (Below.refl _ _) _); (case hO => exact Kd.R_nil _ _ _ _ _); rintro e w' ⟨v, rfl, hR, hB, _⟩))
  go_ret
  exact ⟨_, rfl, Kd.R_mono hR (fun _ _ => trivial), hB⟩

end Go.Proofs.Ytmemmhalcieelaa.V
