/-
How many bytes a number has, by its bits; Zigzag's arithmetic; what bytes as text tell. No program here.
-/
import Derived.Lib.BitFns
import Derived.Laws.BitsAllLaws
import Derived.Laws.Bits64
import Derived.RowKit
import Derived.Test.YtmemmhalcieelaaM1
namespace Go.Proofs.Ytmemmhalcieelaa.M
open Go.RowKit

theorem bitLen_pos (x : Nat) (h : 0 < x) (h1 : x < 2 ^ 64) : 1 ≤ Lib.bitLen x := by
  rw [Lib.bitLen_half x (by omega) h1]
  omega

theorem enc_bits : ∀ (d : Nat) (n : Int), 0 < n → n < 128 ^ (d + 1) → n < 18446744073709551616 → ((enc d n).length : Int) = ((Lib.bitLen n.toNat : Int) + 6) / 7
  | d, n, h0, h1, h2 => by
    by_cases c : n < 128
    · rw [enc_small d n c]
      have a := bitLen_pos n.toNat (by omega) (by omega)
      have b := Lib.bitLen_le n.toNat 7 (by decide) (by omega)
      simp only [List.length_singleton]
      omega
    · cases d with
      | zero => simp at h1; omega
      | succ d =>
        rw [enc_big d n c, List.length_cons]
        have e := Lib.bitLen_shift 7 n.toNat (by omega) (by omega)
        have ih := enc_bits d (n / 128) (by omega) (by rw [Int.pow_succ] at h1; omega) (by omega)
        rw [show n.toNat / 2 ^ 7 = (n / 128).toNat by omega] at e
        omega

/-- The number of a number's bytes. -/
theorem E_bits {n : Int} (h0 : 0 ≤ n) (h1 : n < 18446744073709551616) : max (((Lib.bitLen n.toNat : Int) + 6) / 7) 1 = ((E n).length : Int) := by
  by_cases c : n = 0
  · subst c
    decide
  · have := enc_bits 9 n (by omega) (pow10 h1) h1
    have p := E_pos n
    unfold E at *
    omega

end Go.Proofs.Ytmemmhalcieelaa.M
