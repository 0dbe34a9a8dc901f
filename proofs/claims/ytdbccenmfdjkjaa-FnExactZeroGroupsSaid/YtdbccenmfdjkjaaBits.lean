/- Sets of at most twelve items as the bits of a number. No conditions beyond those of the lemmas' own hypotheses. -/
import Derived.Test.YtdbccenmfdjkjaaPlain
namespace Go.Proofs.Ytdbccenmfdjkjaa.Bits
open Go.RowKit Go.Proofs.Ytdbccenmfdjkjaa.Plain Go.Proofs.YtdbccenmfdjkjaaW.PrintWords Go.Proofs.YtdbccenmfdjkjaaW.PrintLast Go.Proofs.YtdbccenmfdjkjaaW.PrintMore
set_option linter.unusedVariables false

theorem nat63 {x : Nat} (h : x ≤ 4611686018427387904) : x < 2 ^ 63 :=
  Nat.lt_of_le_of_lt h (by decide)
theorem andN (x y : Nat) (hx : x ≤ 4611686018427387904) (hy : y ≤ 4611686018427387904) : Go.bits .and .i64 (x : Int) (y : Int) = ((x &&& y : Nat) : Int) :=
  (bits_nat .i64 63 (by decide) wraps63 x y (nat63 hx) (nat63 hy)).1
theorem orN (x y : Nat) (hx : x ≤ 4611686018427387904) (hy : y ≤ 4611686018427387904) : Go.bits .or .i64 (x : Int) (y : Int) = ((x ||| y : Nat) : Int) :=
  (bits_nat .i64 63 (by decide) wraps63 x y (nat63 hx) (nat63 hy)).2
theorem shlN {y : Int} {n : Nat} (hy : y = n) (h : n ≤ 62) : shl .i64 1 y = ((2 ^ n : Nat) : Int) := by
  rw [shl_one hy h]; simp
theorem pow62 {n : Nat} (h : n ≤ 62) : 2 ^ n ≤ 4611686018427387904 := by
  have : 2 ^ n ≤ 2 ^ 62 := Nat.pow_le_pow_right (by decide) h
  simpa using this
/-- A bit, as the code asks for it. -/
theorem bitN (x : Nat) {y : Int} {i : Nat} (hy : y = i) (hx : x ≤ 4611686018427387904) (hi : i ≤ 62) : Go.bits .and .i64 (shr .i64 (x : Int) y) 1 = if x.testBit i then 1 else 0 := by
  rw [shr_nat hy (by omega), show (1 : Int) = ((1 : Nat) : Int) from rfl, andN _ _ (Nat.le_trans (Nat.div_le_self _ _) hx) (by omega), Nat.and_one_is_mod]
  rw [show (x / 2 ^ i) % 2 = if x.testBit i then 1 else 0 from by
    rw [← Nat.shiftRight_eq_div_pow]
    simp only [Nat.testBit, Nat.and_comm 1, Nat.and_one_is_mod]
    have : (x >>> i) % 2 = 0 ∨ (x >>> i) % 2 = 1 := by omega
    rcases this with h | h <;> simp [h]]
  cases x.testBit i <;> rfl
theorem or_add (x i : Nat) (h : x.testBit i = false) : x ||| 2 ^ i = x + 2 ^ i := by
  have h1 : x % 2 ^ (i + 1) < 2 ^ i := by
    have hm : x % 2 ^ (i + 1) = 2 ^ i * (x / 2 ^ i % 2) + x % 2 ^ i := by
      rw [Nat.pow_succ, Nat.mod_mul]; omega
    have hb : x / 2 ^ i % 2 = 0 := by
      rw [Nat.testBit, Nat.and_comm, Nat.and_one_is_mod, Nat.shiftRight_eq_div_pow] at h
      simpa using h
    rw [hm, hb]
    have := Nat.mod_lt x (Nat.two_pow_pos i)
    omega
  have hx : x = 2 ^ (i + 1) * (x / 2 ^ (i + 1)) + x % 2 ^ (i + 1) := (Nat.div_add_mod x (2 ^ (i + 1))).symm
  have h2 : x % 2 ^ (i + 1) ||| 2 ^ i = 2 ^ i + x % 2 ^ (i + 1) := by
    rw [Nat.or_comm]
    have := Nat.two_pow_add_eq_or_of_lt h1 1
    simpa using this.symm
  have hlt : 2 ^ i + x % 2 ^ (i + 1) < 2 ^ (i + 1) := by
    have e : 2 ^ (i + 1) = 2 ^ i * 2 := Nat.pow_succ ..
    omega
  have hlt2 : x % 2 ^ (i + 1) < 2 ^ (i + 1) := Nat.mod_lt _ (Nat.two_pow_pos _)
  have e1 := Nat.two_pow_add_eq_or_of_lt hlt2 (x / 2 ^ (i + 1))
  have e2 := Nat.two_pow_add_eq_or_of_lt hlt (x / 2 ^ (i + 1))
  calc x ||| 2 ^ i = (2 ^ (i + 1) * (x / 2 ^ (i + 1)) ||| x % 2 ^ (i + 1)) ||| 2 ^ i := by rw [← e1, ← hx]
    _ = 2 ^ (i + 1) * (x / 2 ^ (i + 1)) ||| (x % 2 ^ (i + 1) ||| 2 ^ i) := by rw [Nat.or_assoc]
    _ = 2 ^ (i + 1) * (x / 2 ^ (i + 1)) + (2 ^ i + x % 2 ^ (i + 1)) := by rw [h2, ← e2]
    _ = x + 2 ^ i := by rw [Nat.add_comm (2 ^ i), ← Nat.add_assoc, ← hx]
theorem lt_of_bit {x n i : Nat} (hx : x < 2 ^ n) (hi : i < n) (h : x.testBit i = false) : x + 2 ^ i < 2 ^ n := by
  rw [← or_add x i h]
  exact Nat.or_lt_two_pow hx (Nat.pow_lt_pow_right (by decide) hi)
theorem full_bit {n i : Nat} (hi : i < n) : (2 ^ n - 1).testBit i = true := by
  rw [Nat.testBit_two_pow_sub_one]; simpa using hi
theorem bit_of_lt {x i : Nat} (h : x < 2 ^ i) : x.testBit i = false := Nat.testBit_lt_two_pow h
end Go.Proofs.Ytdbccenmfdjkjaa.Bits
