import Derived.Test.YtpbmfdflmmeghaaWb
import Derived.Laws.BitsAllLaws
namespace Go.Proofs.Ytpbmfdflmmeghaa.Wire
open Go.RowKit Go.Proofs.YtpbmfdflmmeghaaW.PrintWords Go.Proofs.YtpbmfdflmmeghaaW.PrintLast Go.Proofs.YtpbmfdflmmeghaaW.PrintMore
set_option linter.unusedVariables false
set_option linter.unusedSimpArgs false

/-- The group encoding of a number. -/
def grp (n : Nat) : List Int := if n < 128 then [(n : Int)] else ((n % 128 + 128 : Nat) : Int) :: grp (n / 128)
termination_by n
decreasing_by omega

theorem grp_small {n : Nat} (h : n < 128) : grp n = [(n : Int)] := by rw [grp, if_pos h]
theorem grp_big {n : Nat} (h : ¬ n < 128) : grp n = ((n % 128 + 128 : Nat) : Int) :: grp (n / 128) := by rw [grp, if_neg h]

theorem grp_len (m : Nat) : ∀ n, n < 128 ^ (m + 1) → (grp n).length ≤ m + 1 := by
  induction m with
  | zero => intro n h; rw [grp_small (by simpa using h)]; simp
  | succ m ih =>
    intro n h
    by_cases h1 : n < 128
    · rw [grp_small h1]; simp
    · rw [grp_big h1, List.length_cons]
      have := ih (n / 128) (by rw [Nat.div_lt_iff_lt_mul (by omega)]; rw [Nat.pow_succ] at h; exact h)
      omega
theorem grp_len10 {n : Nat} (h : n < 18446744073709551616) : (grp n).length ≤ 10 := grp_len 9 n (Nat.lt_of_lt_of_le h (by decide))
theorem grp_pos (n : Nat) : 0 < (grp n).length := by
  by_cases h : n < 128
  · rw [grp_small h]; simp
  · rw [grp_big h]; simp

theorem grp_byte (n : Nat) : ∀ x ∈ grp n, 0 ≤ x ∧ x < 256 := by
  induction n using Nat.strongRecOn with
  | ind n ih =>
    by_cases h : n < 128
    · rw [grp_small h]; intro x hx; simp at hx; omega
    · rw [grp_big h]; intro x hx
      rcases List.mem_cons.1 hx with rfl | hx
      · omega
      · exact ih (n / 128) (by omega) x hx

theorem or128 : ∀ a, a < 256 → a ||| 128 = a % 128 + 128 := by decide +kernel

theorem or_byte (n : Nat) : Go.bits .or .u8 ((n : Int) % 256) 128 = ((n % 128 + 128 : Nat) : Int) := by
  have := u8_or_nat (n % 256) 128 (by omega) (by omega)
  rw [or128 _ (by omega), show n % 256 % 128 = n % 128 by omega] at this
  rw [← this]; simp

/-- The number that encodes a signed number. -/
def zig (a : Int) : Nat := if 0 ≤ a then (2 * a).toNat else (-2 * a - 1).toNat

theorem xor_ones (x : Nat) (hx : x < 18446744073709551616) : x ^^^ 18446744073709551615 = 18446744073709551615 - x := by
  have h : (BitVec.ofNat 64 x ^^^ BitVec.allOnes 64).toNat = 18446744073709551615 - x := by
    rw [BitVec.xor_allOnes, BitVec.toNat_not, BitVec.toNat_ofNat, Nat.mod_eq_of_lt (by omega)]
  rw [BitVec.toNat_xor, BitVec.toNat_ofNat, Nat.mod_eq_of_lt (by omega), BitVec.toNat_allOnes] at h
  exact h

theorem fold_xor (a : Int) (h0 : -9223372036854775808 ≤ a) (h1 : a ≤ 9223372036854775807) : Go.bits .xor .u64 (IntKind.u64.wrap ((IntKind.u64.wrap a) * 2)) (IntKind.u64.wrap (a / 9223372036854775808)) = (zig a : Int) := by
  by_cases h : 0 ≤ a
  · have e1 : IntKind.u64.wrap (a / 9223372036854775808) = ((0 : Nat) : Int) := by rw [IntKind.wrap_u64]; omega
    have e2 : IntKind.u64.wrap ((IntKind.u64.wrap a) * 2) = ((2 * a).toNat : Int) := by simp only [IntKind.wrap_u64]; omega
    rw [e1, e2, u64_xor_nat _ _ (by omega) (by omega), Nat.xor_zero, zig, if_pos h]
  · have e1 : IntKind.u64.wrap (a / 9223372036854775808) = ((18446744073709551615 : Nat) : Int) := by rw [IntKind.wrap_u64]; omega
    have e2 : IntKind.u64.wrap ((IntKind.u64.wrap a) * 2) = ((2 * a + 18446744073709551616).toNat : Int) := by simp only [IntKind.wrap_u64]; omega
    rw [e1, e2, u64_xor_nat _ _ (by omega) (by omega), xor_ones _ (by omega), zig, if_neg h]
    omega

theorem fold_ref_pos (a : Int) (h : 0 ≤ a) (h1 : a ≤ 9223372036854775807) : IntKind.u64.wrap ((IntKind.u64.wrap a) * 2) = (zig a : Int) := by
  rw [zig, if_pos h]; simp only [IntKind.wrap_u64]; omega
theorem fold_ref_neg (a : Int) (h : a < 0) (h0 : -9223372036854775808 ≤ a) : IntKind.u64.wrap ((IntKind.u64.wrap ((IntKind.u64.wrap (wrap64 (-(wrap64 (a + 1))))) * 2)) + 1) = (zig a : Int) := by
  rw [zig, if_neg (by omega)]; simp only [IntKind.wrap_u64]; unfold wrap64; omega

theorem zig_lt (a : Int) (h0 : -9223372036854775808 ≤ a) (h1 : a ≤ 9223372036854775807) : zig a < 18446744073709551616 := by
  unfold zig; split <;> omega

/-- The encoding of a list of signed numbers, without their number. -/
def zigs : List Int → List Int
  | [] => []
  | a :: l => grp (zig a) ++ zigs l

end Go.Proofs.Ytpbmfdflmmeghaa.Wire
