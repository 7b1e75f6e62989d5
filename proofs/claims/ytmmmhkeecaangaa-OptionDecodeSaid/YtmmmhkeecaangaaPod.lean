import Derived.Test.YtmmmhkeecaangaaPoc
import Derived.Test.YtmmmhkeecaangaaQx30
import Derived.Test.YtmmmhkeecaangaaQx31
namespace Go.Proofs.Ytmmmhkeecaangaa.Q
open Go.RowKit Go.Proofs.YtmmmhkeecaangaaW.PrintWords Go.Proofs.YtmmmhkeecaangaaW.PrintLast Go.Proofs.YtmmmhkeecaangaaW.PrintMore Go.Proofs.Ytmmmhkeecaangaa.Wire
set_option linter.unusedVariables false
set_option linter.unusedSimpArgs false

theorem and_127 (b : Int) (h0 : 0 ≤ b) (h1 : b < 256) : Go.bits .and .u8 b 127 = b % 128 := by
  obtain ⟨a, rfl⟩ := Int.eq_ofNat_of_zero_le h0
  have ha : a < 256 := by omega
  have : ∀ a : Nat, a < 256 → Go.bits .and .u8 (a : Int) 127 = (a : Int) % 128 := by decide +kernel
  exact this a ha
theorem group_piece (acc b : Int) (i : Nat) (hi : i ≤ 8) (ha0 : 0 ≤ acc) (ha : acc < 2 ^ (7 * i)) (h0 : 0 ≤ b) (h1 : b < 256) :
    Go.bits .or .u64 acc (shl .u64 (IntKind.u64.wrap (Go.bits .and .u8 b 127)) (wrap64 (7 * (i : Int)))) = acc + b % 128 * 2 ^ (7 * i) := by
  rw [and_127 b h0 h1, IntKind.wrap_u64, show b % 128 % 18446744073709551616 = b % 128 by omega, show wrap64 (7 * (i : Int)) = ((7 * i : Nat) : Int) by unfold wrap64; omega]
  unfold shl
  rw [Int.toNat_natCast, show min (7 * i) IntKind.u64.bits = 7 * i by have : IntKind.u64.bits = 64 := rfl
                                                                      rw [this]; omega]
  exact or_acc' acc (b % 128) (7 * i) ha0 ha (by omega) (by omega) (.inl (by omega))

theorem w7_nn (i : Nat) (hi : i ≤ 8) : (0 : Int) ≤ wrap64 (7 * (i : Int)) := by
  rw [show wrap64 (7 * (i : Int)) = ((7 * i : Nat) : Int) by unfold wrap64; omega]; omega

def unsR (b : List Int) (p : Nat) : Int × Int × Int := match uintF b p with | .ok (n, q) => (n, (q : Int), 0) | .error c => (0, (p : Int), c)
theorem ungroup_ev (b : List Int) (p : Nat) (hl : b.length < 1000000000) (hp : p ≤ b.length) (hby : ∀ x ∈ b, 0 ≤ x ∧ x < 256) : Ev (fun k => bandplanref30_Ungroup.f k b (p : Int)) (unsR b p) := by
  have aux : ∀ d (i : Nat), i + d = 8 → ∀ acc : Int, 0 ≤ acc → acc < 2 ^ (7 * i) → Ev (fun k => bandplanref30_Ungroup.l0 k b (p : Int) acc (i : Int)) (match numF 63 b (p + i) (7 * i) acc with | .ok (n, q) => (n, (q : Int), 0) | .error c => (0, (p : Int), c)) := by
    intro d
    induction d with
    | zero =>
      intro i hi acc ha0 ha
      obtain rfl : i = 8 := by omega
      refine Ev.step (fun _ => bandplanref30_Ungroup.l0.eq_2 ..) ?_
      rw [show wrap64 ((p : Int) + ((8 : Nat) : Int)) = ((p + 8 : Nat) : Int) by unfold wrap64; omega]
      simp only [if_pos (show ((8 : Nat) : Int) < 9 by decide)]
      unfold numF
      by_cases hlt : p + 8 < b.length
      · simp only [if_neg (show ¬ ((p + 8 : Nat) : Int) ≥ (b.length : Int) by omega), if_pos (show (0 : Int) ≤ ((p + 8 : Nat) : Int) by omega), if_pos (show ((p + 8 : Nat) : Int) < (b.length : Int) by omega), dif_pos hlt]
        rw [rd_nat]
        have hx := hby _ (getD_memI hlt)
        have hgp := group_piece acc (b.getD (p + 8) 0) 8 (by omega) ha0 ha hx.1 hx.2
        rw [hgp]
        simp only [if_pos (w7_nn 8 (by omega))]
        by_cases q : b.getD (p + 8) 0 < 128
        · simp only [if_pos q, if_pos (show ((8 : Nat) : Int) > 0 by decide)]
          rw [if_neg (show ¬ ((((63 : Nat) : Int) - ((7 * 8 : Nat) : Int) < 7 ∧ b.getD (p + 8) 0 / 2 ^ (63 - 7 * 8) ≠ 0) ∨ (((63 : Nat) : Int) - ((7 * 8 : Nat) : Int) = 7 ∧ 128 ≤ b.getD (p + 8) 0)) by omega)]
          by_cases z : b.getD (p + 8) 0 = 0
          · simp only [if_pos z]
            rw [if_pos ⟨z, by decide⟩]
            exact Ev.now _
          · simp only [if_neg z]
            rw [if_neg (fun h => z h.1)]
            have hr : acc + b.getD (p + 8) 0 % 128 * 2 ^ (7 * 8) < 2 ^ 63 := by
              have e1 : (2 : Int) ^ (7 * 8) = 72057594037927936 := by decide
              have e2 : (2 : Int) ^ 63 = 9223372036854775808 := by decide
              rw [e1] at ha ⊢; rw [e2]; omega
            have e2 : (2 : Int) ^ 63 = 9223372036854775808 := by decide
            rw [e2] at hr
            rw [show wrap64 (acc + b.getD (p + 8) 0 % 128 * 2 ^ (7 * 8)) = acc + b.getD (p + 8) 0 % 128 * 2 ^ (7 * 8) by
              unfold wrap64; have : 0 ≤ b.getD (p + 8) 0 % 128 * 2 ^ (7 * 8) := Int.mul_nonneg (by omega) (by decide); omega, show wrap64 (((p + 8 : Nat) : Int) + 1) = ((p + 8 + 1 : Nat) : Int) by unfold wrap64; omega]
            exact Ev.now _
        · simp only [if_neg q]
          rw [if_pos (show ((((63 : Nat) : Int) - ((7 * 8 : Nat) : Int) < 7 ∧ b.getD (p + 8) 0 / 2 ^ (63 - 7 * 8) ≠ 0) ∨ (((63 : Nat) : Int) - ((7 * 8 : Nat) : Int) = 7 ∧ 128 ≤ b.getD (p + 8) 0)) from .inr ⟨by decide, by omega⟩)]
          refine Ev.step (fun _ => bandplanref30_Ungroup.l0.eq_2 ..) ?_
          rw [wrap_s 8 (by omega)]
          simp only [if_neg (show ¬ ((8 + 1 : Nat) : Int) < 9 by decide)]
          exact Ev.now _
      · simp only [if_pos (show ((p + 8 : Nat) : Int) ≥ (b.length : Int) by omega), dif_neg hlt]
        exact Ev.now _
    | succ d ih =>
      intro i hi acc ha0 ha
      refine Ev.step (fun _ => bandplanref30_Ungroup.l0.eq_2 ..) ?_
      rw [show wrap64 ((p : Int) + (i : Int)) = ((p + i : Nat) : Int) by unfold wrap64; omega]
      simp only [if_pos (show (i : Int) < 9 by omega)]
      unfold numF
      by_cases hlt : p + i < b.length
      · simp only [if_neg (show ¬ ((p + i : Nat) : Int) ≥ (b.length : Int) by omega), if_pos (show (0 : Int) ≤ ((p + i : Nat) : Int) by omega), if_pos (show ((p + i : Nat) : Int) < (b.length : Int) by omega), dif_pos hlt]
        rw [rd_nat]
        have hx := hby _ (getD_memI hlt)
        have hgp := group_piece acc (b.getD (p + i) 0) i (by omega) ha0 ha hx.1 hx.2
        rw [hgp]
        simp only [if_pos (w7_nn i (by omega))]
        have hp2 : (0 : Int) < 2 ^ (7 * i) := Int.pow_pos (by decide)
        have hnx := acc_next acc (b.getD (p + i) 0 % 128) (7 * i) ha0 ha (by omega) (by omega)
        have hpw : (2 : Int) ^ (7 * i + 7) ≤ 2 ^ 56 := by
          have := Nat.pow_le_pow_right (n := 2) (by decide) (show 7 * i + 7 ≤ 56 by omega)
          exact_mod_cast this
        have e2 : (2 : Int) ^ 56 = 72057594037927936 := by decide
        rw [e2] at hpw
        rw [if_neg (show ¬ ((((63 : Nat) : Int) - ((7 * i : Nat) : Int) < 7 ∧ b.getD (p + i) 0 / 2 ^ (63 - 7 * i) ≠ 0) ∨ (((63 : Nat) : Int) - ((7 * i : Nat) : Int) = 7 ∧ 128 ≤ b.getD (p + i) 0)) by omega)]
        by_cases q : b.getD (p + i) 0 < 128
        · simp only [if_pos q]
          rw [show wrap64 (acc + b.getD (p + i) 0 % 128 * 2 ^ (7 * i)) = acc + b.getD (p + i) 0 % 128 * 2 ^ (7 * i) by unfold wrap64; omega, show wrap64 (((p + i : Nat) : Int) + 1) = ((p + i + 1 : Nat) : Int) by unfold wrap64; omega]
          by_cases z : (i : Int) > 0
          · simp only [if_pos z]
            by_cases z2 : b.getD (p + i) 0 = 0
            · simp only [if_pos z2]
              rw [if_pos ⟨z2, by omega⟩]
              exact Ev.now _
            · simp only [if_neg z2]
              rw [if_neg (fun h => z2 h.1)]
              exact Ev.now _
          · simp only [if_neg z]
            rw [if_neg (fun h => by have := h.2; omega)]
            exact Ev.now _
        · simp only [if_neg q]
          rw [wrap_s i (by omega)]
          have := ih (i + 1) (by omega) _ hnx.1 (by rw [show 7 * (i + 1) = 7 * i + 7 by omega]; exact hnx.2)
          rw [show p + (i + 1) = p + i + 1 by omega, show 7 * (i + 1) = 7 * i + 7 by omega] at this
          exact this
      · simp only [if_pos (show ((p + i : Nat) : Int) ≥ (b.length : Int) by omega), dif_neg hlt]
        exact Ev.now _
  have := aux 8 0 (by omega) 0 (Int.le_refl _) (by decide)
  exact this
theorem u_ev (b : List Int) (p : Nat) (hl : b.length < 1000000000) (hp : p ≤ b.length) (hby : ∀ x ∈ b, 0 ≤ x ∧ x < 256) : Ev (fun k => bandplanref30_Ungroup.f k b (p : Int)) (uR b (0, p), ((uS b (0, p)).2 : Int), (uS b (0, p)).1) := by
  have := ungroup_ev b p hl hp hby
  unfold unsR at this
  unfold uR uS valR valE valP
  cases h : uintF b p with
  | ok nq => obtain ⟨n, q⟩ := nq; rw [h] at this; exact this
  | error c => rw [h] at this; exact this
theorem c_ev (b : List Int) (p : Nat) (lim : Int) (h0 : 0 ≤ lim) (hl : b.length < 1000000000) (hp : p ≤ b.length) (hby : ∀ x ∈ b, 0 ≤ x ∧ x < 256) (hne : ∀ c, uintF b p = .error c → c ≠ 0) : Ev (fun k => bandplanref30_Count.f k b (p : Int) lim) (cR lim b (0, p), ((cS lim b (0, p)).2 : Int), (cS lim b (0, p)).1) := by
  have := ungroup_ev b p hl hp hby
  unfold bandplanref30_Count.f
  refine Ev.bind this ?_
  unfold unsR cR cS valR valE valP countF
  unfold uintF at hne ⊢
  cases h : numF 63 b p 0 0 with
  | ok nq =>
    obtain ⟨n, q⟩ := nq
    simp only [if_true]
    rw [if_neg (show ¬ lim < 0 by omega)]
    by_cases g : lim < n
    · simp only [if_pos (show n > lim from g), if_pos g]; exact Ev.now _
    · simp only [if_neg (show ¬ n > lim from g), if_neg g]; exact Ev.now _
  | error c =>
    have := hne c h
    simp only [if_neg this, if_true]; exact Ev.now _
end Go.Proofs.Ytmmmhkeecaangaa.Q
