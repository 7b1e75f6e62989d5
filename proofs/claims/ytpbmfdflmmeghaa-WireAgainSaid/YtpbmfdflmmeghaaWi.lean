import Derived.Test.YtpbmfdflmmeghaaWh
namespace Go.Proofs.Ytpbmfdflmmeghaa.Wire
open Go.RowKit Go.Proofs.YtpbmfdflmmeghaaW.PrintWords Go.Proofs.YtpbmfdflmmeghaaW.PrintLast Go.Proofs.YtpbmfdflmmeghaaW.PrintMore
set_option linter.unusedVariables false
set_option linter.unusedSimpArgs false

theorem pow_split (B s : Nat) (h : s ≤ B) : (2 : Int) ^ B = 2 ^ (B - s) * 2 ^ s := by rw [← Int.pow_add]; congr 1; omega

theorem numF_range {B : Nat} (hB : 63 ≤ B ∧ B ≤ 64) {inb : List Int} (hby : ∀ x ∈ inb, 0 ≤ x ∧ x < 256) (d : Nat) : ∀ (p s : Nat) (acc : Int), inb.length - p ≤ d → s < B → 0 ≤ acc → acc < 2 ^ s → ∀ n q, numF B inb p s acc = .ok (n, q) → 0 ≤ n ∧ n < 2 ^ B ∧ p < q ∧ q ≤ inb.length := by
  induction d with
  | zero =>
    intro p s acc hd hs h0 h1 n q h
    rw [numF_end (by omega)] at h; cases h
  | succ d ih =>
    intro p s acc hd hs h0 h1 n q h
    by_cases hend : p < inb.length
    · have hb := hby (inb.getD p 0) (by rw [show inb.getD p 0 = inb[p] by simp [List.getD, hend]]; exact List.getElem_mem hend)
      generalize hbb : inb.getD p 0 = b at hb
      by_cases hbad : ((B : Int) - s < 7 ∧ b / 2 ^ (B - s) ≠ 0) ∨ ((B : Int) - s = 7 ∧ 128 ≤ b)
      · rw [numF_bad hend hbb hbad] at h; cases h
      · have hn := acc_next acc (b % 128) s h0 h1 (by omega) (by omega)
        by_cases hsm : b < 128
        · by_cases hz : b = 0 ∧ 0 < s
          · rw [numF_zero hend hbb hbad hsm hz] at h; cases h
          · rw [numF_last hend hbb hbad hsm hz] at h
            cases h
            refine ⟨hn.1, ?_, by omega, by omega⟩
            by_cases hl : (B : Int) - s < 7
            · have hb0 : b / 2 ^ (B - s) = 0 := Decidable.not_not.1 fun hh => hbad (.inl ⟨hl, hh⟩)
              have hp : (0 : Int) < 2 ^ (B - s) := Int.pow_pos (by decide)
              have hps : (0 : Int) < 2 ^ s := Int.pow_pos (by decide)
              have h4 := Int.lt_ediv_add_one_mul_self b hp
              rw [hb0] at h4
              have hm : b % 128 = b := Int.emod_eq_of_lt hb.1 hsm
              rw [hm, pow_split B s (by omega)]
              have h5 : (b + 1) * 2 ^ s ≤ 2 ^ (B - s) * 2 ^ s := Int.mul_le_mul_of_nonneg_right (by omega) (Int.le_of_lt hps)
              rw [Int.add_mul, Int.one_mul] at h5
              omega
            · have h6 : (2 : Int) ^ (s + 7) ≤ 2 ^ B := by
                have := Nat.pow_le_pow_right (n := 2) (by decide) (show s + 7 ≤ B by omega)
                have h3 : (((2 : Nat) ^ (s + 7) : Nat) : Int) ≤ (((2 : Nat) ^ B : Nat) : Int) := Int.ofNat_le.2 this
                rw [Int.natCast_pow, Int.natCast_pow] at h3; exact h3
              omega
        · rw [numF_more hend hbb hbad hsm] at h
          have hs7 : s + 7 < B := by
            by_cases hl : (B : Int) - s < 7
            · exfalso
              have hb0 : b / 2 ^ (B - s) = 0 := Decidable.not_not.1 fun hh => hbad (.inl ⟨hl, hh⟩)
              have hp : (0 : Int) < 2 ^ (B - s) := Int.pow_pos (by decide)
              have h4 := Int.lt_ediv_add_one_mul_self b hp
              rw [hb0] at h4
              have h2 : (2 : Int) ^ (B - s) ≤ 2 ^ 6 := by
                have := Nat.pow_le_pow_right (n := 2) (by decide) (show B - s ≤ 6 by omega)
                have h3 : (((2 : Nat) ^ (B - s) : Nat) : Int) ≤ (((2 : Nat) ^ 6 : Nat) : Int) := Int.ofNat_le.2 this
                rw [Int.natCast_pow, Int.natCast_pow] at h3; exact h3
              have h5 : (2 : Int) ^ 6 = 64 := by decide
              omega
            · have : ¬ (B : Int) - s = 7 := fun h7 => hbad (.inr ⟨h7, by omega⟩)
              omega
          obtain ⟨g1, g2, g3, g4⟩ := ih (p + 1) (s + 7) _ (by omega) hs7 hn.1 hn.2 n q h
          exact ⟨g1, g2, by omega, g4⟩
    · rw [numF_end hend] at h; cases h

/-- The signed number that a number encodes. -/
def unz (n : Int) : Int := if n % 2 = 0 then n / 2 else -(n / 2) - 1

theorem xor_i64_zero (x : Int) (h0 : -9223372036854775808 ≤ x) (h1 : x ≤ 9223372036854775807) : Go.bits .xor .i64 x 0 = x := by
  show IntKind.i64.wrap ((BitVec.ofInt 64 x ^^^ BitVec.ofInt 64 0).toNat : Int) = _
  rw [show BitVec.ofInt 64 0 = 0#64 from rfl, BitVec.xor_zero, BitVec.toNat_ofInt, IntKind.wrap_i64]
  omega
theorem xor_i64_ones (x : Int) (h0 : -9223372036854775808 ≤ x) (h1 : x ≤ 9223372036854775807) : Go.bits .xor .i64 x (-1) = -x - 1 := by
  show IntKind.i64.wrap ((BitVec.ofInt 64 x ^^^ BitVec.ofInt 64 (-1)).toNat : Int) = _
  rw [show BitVec.ofInt 64 (-1) = BitVec.allOnes 64 from rfl, BitVec.xor_allOnes, BitVec.toNat_not, BitVec.toNat_ofInt, IntKind.wrap_i64]
  omega

theorem unz_xor (n : Int) (h0 : 0 ≤ n) (h1 : n < 18446744073709551616) : Go.bits .xor .i64 (n / 2) (-(n % 2)) = unz n := by
  unfold unz
  have : n % 2 = 0 ∨ n % 2 = 1 := by omega
  rcases this with h | h
  · rw [h, if_pos rfl]; exact xor_i64_zero _ (by omega) (by omega)
  · rw [h, if_neg (by decide)]; exact xor_i64_ones _ (by omega) (by omega)

theorem and_one (n : Int) (h0 : 0 ≤ n) (h1 : n < 18446744073709551616) : Go.bits .and .u64 n 1 = n % 2 := by
  obtain ⟨m, rfl⟩ := Int.eq_ofNat_of_zero_le h0
  have := u64_and_nat m 1 (by omega) (by omega)
  rw [nat_mask1] at this
  rw [show (1 : Int) = ((1 : Nat) : Int) from rfl, this]; omega

/-- What a reading step hands back: a value, or a panic with an error. -/
def RetPost (α : Type) (enc : α → Value) (w0 w : World) (rb : Nat) (ok : Nat → Prop) (vin : Value) (e : Int) (inb : List Int) (x : Except Int (α × Nat)) (r : Ending) (w' : World) : Prop :=
  match x with
  | .ok (a, q) => r = .returned (enc a) ∧ RLeft w0 w rb ok vin e q inb w'
  | .error c => r = errPanic c ∧ ∃ q, RLeft w0 w rb ok vin e q inb w'
theorem RetPost.ok_mk {α : Type} {enc : α → Value} {w0 w w1 : World} {rb : Nat} {ok : Nat → Prop} {vin : Value} {e : Int} {inb : List Int} {x : Except Int (α × Nat)} {a : α} {q : Nat} (hx : x = .ok (a, q)) (h : RLeft w0 w rb ok vin e q inb w1) : RetPost α enc w0 w rb ok vin e inb x (.returned (enc a)) w1 := by subst hx; exact ⟨rfl, h⟩
theorem RetPost.err_mk {α : Type} {enc : α → Value} {w0 w w1 : World} {rb : Nat} {ok : Nat → Prop} {vin : Value} {e c : Int} {inb : List Int} {x : Except Int (α × Nat)} {q : Nat} (hx : x = .error c) (h : RLeft w0 w rb ok vin e q inb w1) : RetPost α enc w0 w rb ok vin e inb x (errPanic c) w1 := by subst hx; exact ⟨rfl, q, h⟩

def intF (inb : List Int) (p : Nat) : Except Int (Int × Nat) := match numF 64 inb p 0 0 with | .ok (n, q) => .ok (unz n, q) | .error c => .error c

theorem number_ok (w0 w : World) (rb : Nat) (ok : Nat → Prop) (vin : Value) (e : Int) (p : Nat) (inb : List Int) (B : Nat) (hBits : B = 63 ∨ B = 64) (hB : Below w0.heap.size w0 w) (hR : RdAt w w0.heap.size rb ok vin e p inb) {n : Int} {q : Nat} (h : numF B inb p 0 0 = .ok (n, q)) :
    Calls Try.prog 49 #[.pointer (some ⟨rb, 0, none⟩), .int .i64 (B : Int)] w (fun r w' => r = .returned (.int .u64 n) ∧ RLeft w0 w rb ok vin e q inb w') := by
  have := number_calls w0 w rb ok vin e p inb B hBits hB hR
  rw [h] at this; exact this
theorem number_err (w0 w : World) (rb : Nat) (ok : Nat → Prop) (vin : Value) (e : Int) (p : Nat) (inb : List Int) (B : Nat) (hBits : B = 63 ∨ B = 64) (hB : Below w0.heap.size w0 w) (hR : RdAt w w0.heap.size rb ok vin e p inb) {c : Int} (h : numF B inb p 0 0 = .error c) :
    Calls Try.prog 49 #[.pointer (some ⟨rb, 0, none⟩), .int .i64 (B : Int)] w (fun r w' => r = errPanic c ∧ ∃ q, RLeft w0 w rb ok vin e q inb w') := by
  have := number_calls w0 w rb ok vin e p inb B hBits hB hR
  rw [h] at this; exact this

theorem signed_calls (w0 w : World) (rb : Nat) (ok : Nat → Prop) (vin : Value) (e : Int) (p : Nat) (inb : List Int) (hB : Below w0.heap.size w0 w) (hR : RdAt w w0.heap.size rb ok vin e p inb) :
    Calls Try.prog 47 #[.pointer (some ⟨rb, 0, none⟩)] w (RetPost Int (Value.int .i64) w0 w rb ok vin e inb (intF inb p)) := by
  have HB := Lib.hid hB
  have HR := Lib.hid hR
  have hby := hR.byte
  clear hB hR
  cases hn : numF 64 inb p 0 0 with
  | error c =>
    have HF := Lib.hid (show intF inb p = .error c by unfold intF; rw [hn])
    have HN := Lib.hid hn
    clear hn hby
    go_enter Try.func47, Try.ntmps47
    go_wp2_with (first | (go_at_call 49; (refine (number_err w0 _ rb ok vin e p inb 64 (.inr rfl) HB.out HR.out HN.out).mono ?_; rintro r w1 ⟨rfl, q, hL⟩; have HL := Aside0.mk hL; clear hL)))
    exact ⟨rfl, RetPost.err_mk HF.out HL.out⟩
  | ok nq =>
    obtain ⟨n, q⟩ := nq
    obtain ⟨h0, h1, _, _⟩ := numF_range (B := 64) (by omega) hby _ p 0 0 (Nat.le_refl _) (by omega) (by omega) (by decide) n q hn
    have h1 : n < 18446744073709551616 := h1
    have HF := Lib.hid (show intF inb p = .ok (unz n, q) by unfold intF; rw [hn])
    have HN := Lib.hid hn
    have hu := unz_xor n h0 h1
    have ha := and_one n h0 h1
    clear hn hby
    go_enter Try.func47, Try.ntmps47
    go_wp2_with (first | (go_at_call 49; (refine (number_ok w0 _ rb ok vin e p inb 64 (.inr rfl) HB.out HR.out HN.out).mono ?_; rintro r w1 ⟨rfl, hL⟩; have HL := Aside0.mk hL; clear hL)))
    go_ret
    exact RetPost.ok_mk HF.out HL.out
end Go.Proofs.Ytpbmfdflmmeghaa.Wire
