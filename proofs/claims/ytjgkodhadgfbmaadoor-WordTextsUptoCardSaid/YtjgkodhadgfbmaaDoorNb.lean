/- Strings as rows of bytes; whole numbers without a sign. -/
import Derived.Test.YtjgkodhadgfbmaaDoorNa
namespace Go.Proofs.YtjgkodhadgfbmaaDoor.Ab
open Go.RowKit
set_option linter.unusedVariables false
set_option linter.unusedSimpArgs false

/-- A string of bytes. -/
abbrev S (l : List UInt8) : ByteArray := ⟨l.toArray⟩
theorem S_eq (b : ByteArray) : b = S b.data.toList := by simp [S]
theorem S_inj {a b : List UInt8} : (S a = S b) = (a = b) := by simp [S]
theorem S_size {l : List UInt8} : (S l).size = l.length := by simp [S, ByteArray.size]
theorem S_at {l : List UInt8} {i : Nat} (h : i < l.length) : byteAt (S l) (i : Int) = ((l[i].toNat : Nat) : Int) := by
  simp [byteAt, S, List.getElem?_eq_getElem h]
theorem S_extract {l : List UInt8} {a b : Nat} : (S l).extract a b = S ((l.drop a).take (b - a)) := by
  apply ByteArray.ext
  simp [S, ByteArray.data_extract, List.take_drop]
theorem S_append {a b : List UInt8} : S a ++ S b = S (a ++ b) := by
  apply ByteArray.ext
  simp [S, ByteArray.data_append]
theorem empty_S : ByteArray.empty = S [] := rfl

theorem wrap_u8 (x : Int) : IntKind.u8.wrap x = x % 256 := by
  simp [IntKind.wrap, IntKind.bits, IntKind.signed]
theorem wrap_u32 (x : Int) : IntKind.u32.wrap x = x % 4294967296 := by
  simp [IntKind.wrap, IntKind.bits, IntKind.signed]
theorem wrap_u64 (x : Int) : IntKind.u64.wrap x = x % 18446744073709551616 := by
  simp [IntKind.wrap, IntKind.bits, IntKind.signed]

/-! whole numbers without a sign, as natural numbers -/
theorem bits_u8 : IntKind.u8.bits = 8 := rfl
theorem bits_u32 : IntKind.u32.bits = 32 := rfl
theorem bits_u64 : IntKind.u64.bits = 64 := rfl
theorem u8_n {n : Nat} : IntKind.u8.wrap (n : Int) = ((n % 256 : Nat) : Int) := by rw [wrap_u8]; omega
theorem u32_n {n : Nat} : IntKind.u32.wrap (n : Int) = ((n % 4294967296 : Nat) : Int) := by rw [wrap_u32]; omega
theorem u64_n {n : Nat} : IntKind.u64.wrap (n : Int) = ((n % 18446744073709551616 : Nat) : Int) := by rw [wrap_u64]; omega
theorem shl_n {n m : Nat} : (n : Int) * 2 ^ m = ((n * 2 ^ m : Nat) : Int) := by simp
theorem shr_n {n m : Nat} : (n : Int).fdiv (2 ^ m) = ((n / 2 ^ m : Nat) : Int) := by
  rw [Int.fdiv_eq_ediv_of_nonneg _ (Int.pow_nonneg (by decide))]
  simp
theorem add_n {a b : Nat} : (a : Int) + (b : Int) = ((a + b : Nat) : Int) := by simp
theorem mul_n {a b : Nat} : (a : Int) * (b : Int) = ((a * b : Nat) : Int) := by simp
theorem div_n {a b : Nat} : (a : Int).tdiv (b : Int) = ((a / b : Nat) : Int) := by simp
theorem mod_n {a b : Nat} : (a : Int).tmod (b : Int) = ((a % b : Nat) : Int) := by rw [Int.tmod_eq_emod_of_nonneg (by omega)]; simp
theorem or_n {w x y : Nat} : (((BitVec.ofInt w (x : Int) ||| BitVec.ofInt w (y : Int)).toNat : Nat) : Int) = (((x % 2 ^ w) ||| (y % 2 ^ w) : Nat) : Int) := by
  simp [BitVec.ofInt_natCast]
theorem min_8_64 : min 8 64 = 8 := rfl
theorem min_32_64 : min 32 64 = 32 := rfl
theorem min_63_64 : min 63 64 = 63 := rfl
theorem min_8_32 : min 8 32 = 8 := rfl
theorem min_16_32 : min 16 32 = 16 := rfl
theorem min_24_32 : min 24 32 = 24 := rfl
set_option linter.defProp false in
def UN := And.intro @bits_u8 (And.intro @bits_u32 (And.intro @bits_u64 (And.intro @u8_n (And.intro @u32_n (And.intro @u64_n (And.intro @shl_n (And.intro @shr_n (And.intro @add_n (And.intro @mul_n (And.intro @div_n (And.intro @mod_n (And.intro @or_n (And.intro @min_8_64 (And.intro @min_32_64 (And.intro @min_63_64 (And.intro @min_8_32 (And.intro @min_16_32 @min_24_32)))))))))))))))))
/-- Digits side by side. -/
theorem or_add {a b m : Nat} (h : b < 2 ^ m) : (a * 2 ^ m ||| b) = a * 2 ^ m + b := by
  rw [Nat.mul_comm]; exact (Nat.two_pow_add_eq_or_of_lt h a).symm
theorem or_add' {a b m : Nat} (h : b < 2 ^ m) : (b ||| a * 2 ^ m) = b + a * 2 ^ m := by
  rw [Nat.or_comm, or_add h, Nat.add_comm]
theorem nv_take {l : List UInt8} {j : Nat} (h : j < l.length) : nv (l.take (j + 1)) = nv (l.take j) * 256 + l[j].toNat := by
  rw [List.take_succ_eq_append_getElem h, nv_snoc]
end Go.Proofs.YtjgkodhadgfbmaaDoor.Ab
