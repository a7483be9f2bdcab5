/- A whole number's last bits. -/
import Derived.Test.YtojjkgnkdcekpaaMBase
import Derived.Laws.BitsLemmas
namespace Go.Proofs.Ytojjkgnkdcekpaa.M
open Go Go.RowKit

theorem and_mask (x : Int) (i : Nat) (hi : i ≤ 62) : bits .and .i64 x (((2 ^ i - 1 : Nat)) : Int) = x % ((2 ^ i : Nat) : Int) := by
  have hp : 2 ^ i ≤ 2 ^ 62 := Nat.pow_le_pow_right (by decide) hi
  have hpos : 0 < 2 ^ i := Nat.two_pow_pos i
  have h64 : (2 ^ 64 : Nat) = 2 ^ i * 2 ^ (64 - i) := by rw [← Nat.pow_add]; congr 1; omega
  have e1 : (BitVec.ofInt 64 x).toNat = (x % (2 ^ 64 : Nat)).toNat := BitVec.toNat_ofInt ..
  have e2 : (BitVec.ofInt 64 (((2 ^ i - 1 : Nat)) : Int)).toNat = 2 ^ i - 1 := by
    rw [BitVec.ofInt_natCast, BitVec.toNat_ofNat]
    apply Nat.mod_eq_of_lt
    omega
  simp only [bits, BitVec.toNat_and]
  show IntKind.i64.wrap (((BitVec.ofInt 64 x).toNat &&& (BitVec.ofInt 64 (((2 ^ i - 1 : Nat)) : Int)).toNat : Nat) : Int) = _
  rw [e1, e2, Nat.and_two_pow_sub_one_eq_mod]
  have hx : 0 ≤ x % ((2 ^ 64 : Nat) : Int) := Int.emod_nonneg _ (by decide)
  have e3 : (((x % ((2 ^ 64 : Nat) : Int)).toNat % 2 ^ i : Nat) : Int) = x % ((2 ^ i : Nat) : Int) := by
    rw [Int.natCast_emod, Int.toNat_of_nonneg hx]
    apply Int.emod_emod_of_dvd
    rw [h64]
    exact Int.natCast_dvd_natCast.2 (Nat.dvd_mul_right _ _)
  rw [e3]
  have h0 := Int.emod_nonneg x (show ((2 ^ i : Nat) : Int) ≠ 0 by omega)
  have h1 := Int.emod_lt_of_pos x (show (0 : Int) < ((2 ^ i : Nat) : Int) by omega)
  rw [IntKind.wrap_i64]
  omega

theorem and127 (x : Int) : bits .and .i64 x 127 = x % 128 := and_mask x 7 (by decide)
theorem and63 (x : Int) : bits .and .i64 x 63 = x % 64 := and_mask x 6 (by decide)
theorem and31 (x : Int) : bits .and .i64 x 31 = x % 32 := and_mask x 5 (by decide)
theorem and15 (x : Int) : bits .and .i64 x 15 = x % 16 := and_mask x 4 (by decide)
theorem and7 (x : Int) : bits .and .i64 x 7 = x % 8 := and_mask x 3 (by decide)
theorem and3 (x : Int) : bits .and .i64 x 3 = x % 4 := and_mask x 2 (by decide)
theorem and1 (x : Int) : bits .and .i64 x 1 = x % 2 := and_mask x 1 (by decide)
theorem and1023 (x : Int) : bits .and .i64 x 1023 = x % 1024 := and_mask x 10 (by decide)
theorem and32767 (x : Int) : bits .and .i64 x 32767 = x % 32768 := and_mask x 15 (by decide)
theorem and65535 (x : Int) : bits .and .i64 x 65535 = x % 65536 := and_mask x 16 (by decide)

end Go.Proofs.Ytojjkgnkdcekpaa.M
