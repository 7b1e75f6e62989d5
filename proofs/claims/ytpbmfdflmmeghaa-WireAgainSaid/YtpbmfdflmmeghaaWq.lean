import Derived.Test.YtpbmfdflmmeghaaWo
namespace Go.Proofs.Ytpbmfdflmmeghaa.Wire
open Go.RowKit Go.Proofs.YtpbmfdflmmeghaaW.PrintWords Go.Proofs.YtpbmfdflmmeghaaW.PrintLast Go.Proofs.YtpbmfdflmmeghaaW.PrintMore
set_option linter.unusedVariables false
set_option linter.unusedSimpArgs false

/-- grp in steps that are counted. -/
def grpF : Nat → Nat → List Int
  | 0, n => [(n : Int)]
  | k + 1, n => if n < 128 then [(n : Int)] else ((n % 128 + 128 : Nat) : Int) :: grpF k (n / 128)
theorem grp_F (k : Nat) : ∀ n, n < 128 ^ (k + 1) → grp n = grpF k n := by
  induction k with
  | zero => intro n h; rw [grp_small (by simpa using h)]; rfl
  | succ k ih =>
    intro n h
    unfold grpF
    by_cases h1 : n < 128
    · rw [grp_small h1, if_pos h1]
    · rw [grp_big h1, if_neg h1, ih (n / 128) (by rw [Nat.div_lt_iff_lt_mul (by omega)]; rw [Nat.pow_succ] at h; exact h)]

theorem k1 : uintE 0 [] 300 = 0 ∧ uintO 0 [] 300 = [172, 2] := by
  have h : grp 300 = [172, 2] := (grp_F 9 300 (by decide)).trans (by decide)
  unfold uintE uintO putE putO
  rw [show (300 : Int).toNat = 300 from rfl, h]; decide
theorem k2 : putE 0 [172, 2] (grp (zig (-64))) = 0 ∧ putO 0 [172, 2] (grp (zig (-64))) = [172, 2, 127] := by
  have h : grp (zig (-64)) = [127] := (grp_F 9 _ (by decide)).trans (by decide)
  rw [h]; decide
theorem k3 : putE 0 [172, 2, 127] (grp (zig (-9223372036854775808))) = 0 ∧ putO 0 [172, 2, 127] (grp (zig (-9223372036854775808))) = [172, 2, 127, 255, 255, 255, 255, 255, 255, 255, 255, 255, 1] := by
  have h : grp (zig (-9223372036854775808)) = [255, 255, 255, 255, 255, 255, 255, 255, 255, 1] := (grp_F 9 _ (by decide)).trans (by decide)
  rw [h]; decide
theorem k4 : putE 0 [172, 2, 127, 255, 255, 255, 255, 255, 255, 255, 255, 255, 1] (boolB true) = 0 ∧ putO 0 [172, 2, 127, 255, 255, 255, 255, 255, 255, 255, 255, 255, 1] (boolB true) = [172, 2, 127, 255, 255, 255, 255, 255, 255, 255, 255, 255, 1, 1] := by decide
def abS : ByteArray := { data := #[97, 98] }
theorem k5 : putE 0 [172, 2, 127, 255, 255, 255, 255, 255, 255, 255, 255, 255, 1, 1] (grp abS.size ++ bytesOf abS) = 0 ∧ putO 0 [172, 2, 127, 255, 255, 255, 255, 255, 255, 255, 255, 255, 1, 1] (grp abS.size ++ bytesOf abS) = [172, 2, 127, 255, 255, 255, 255, 255, 255, 255, 255, 255, 1, 1, 2, 97, 98] := by
  have h : grp abS.size = [2] := (grp_F 9 _ (by decide)).trans (by decide)
  rw [h]; decide
theorem k6 : putE 0 [172, 2, 127, 255, 255, 255, 255, 255, 255, 255, 255, 255, 1, 1, 2, 97, 98] (grp [(1 : Int), -1].length ++ zigs [1, -1]) = 0 ∧ putO 0 [172, 2, 127, 255, 255, 255, 255, 255, 255, 255, 255, 255, 1, 1, 2, 97, 98] (grp [(1 : Int), -1].length ++ zigs [1, -1]) = [172, 2, 127, 255, 255, 255, 255, 255, 255, 255, 255, 255, 1, 1, 2, 97, 98, 2, 2, 1] := by
  have h : grp [(1 : Int), -1].length = [2] := (grp_F 9 _ (by decide)).trans (by decide)
  have h2 : zigs [1, -1] = [2, 1] := by
    simp only [zigs]
    rw [(grp_F 9 (zig 1) (by decide)).trans (by decide : grpF 9 (zig 1) = [2]), (grp_F 9 (zig (-1)) (by decide)).trans (by decide : grpF 9 (zig (-1)) = [1])]
    rfl
  rw [h, h2]; decide
theorem k7 : frE 5 [120] = 0 ∧ frO 5 [120] = [5, 1, 120] := by
  have h : grp 5 = [5] := (grp_F 9 _ (by decide)).trans (by decide)
  have h2 : grp [(120 : Int)].length = [1] := (grp_F 9 _ (by decide)).trans (by decide)
  unfold frE frO uintE uintO putE putO
  rw [show (5 : Int).toNat = 5 from rfl, h, h2]; decide
end Go.Proofs.Ytpbmfdflmmeghaa.Wire
