import Derived.Test.YtpbmfdflmmeghaaWg
namespace Go.Proofs.Ytpbmfdflmmeghaa.Wire
open Go.RowKit Go.Proofs.YtpbmfdflmmeghaaW.PrintWords Go.Proofs.YtpbmfdflmmeghaaW.PrintLast Go.Proofs.YtpbmfdflmmeghaaW.PrintMore
set_option linter.unusedVariables false
set_option linter.unusedSimpArgs false

theorem numF_end {bits : Nat} {inb : List Int} {p s : Nat} {acc : Int} (h : ¬ p < inb.length) : numF bits inb p s acc = .error 4 := by rw [numF, dif_neg h]
theorem numF_bad {bits : Nat} {inb : List Int} {p s : Nat} {acc b : Int} (h : p < inb.length) (hb : inb.getD p 0 = b) (h2 : ((bits : Int) - s < 7 ∧ b / 2 ^ (bits - s) ≠ 0) ∨ ((bits : Int) - s = 7 ∧ 128 ≤ b)) : numF bits inb p s acc = .error 6 := by
  subst hb; rw [numF, dif_pos h, if_pos h2]
theorem numF_zero {bits : Nat} {inb : List Int} {p s : Nat} {acc b : Int} (h : p < inb.length) (hb : inb.getD p 0 = b) (h2 : ¬ (((bits : Int) - s < 7 ∧ b / 2 ^ (bits - s) ≠ 0) ∨ ((bits : Int) - s = 7 ∧ 128 ≤ b))) (h3 : b < 128) (h4 : b = 0 ∧ 0 < s) : numF bits inb p s acc = .error 6 := by
  subst hb; rw [numF, dif_pos h, if_neg h2, if_pos h3, if_pos h4]
theorem numF_last {bits : Nat} {inb : List Int} {p s : Nat} {acc b : Int} (h : p < inb.length) (hb : inb.getD p 0 = b) (h2 : ¬ (((bits : Int) - s < 7 ∧ b / 2 ^ (bits - s) ≠ 0) ∨ ((bits : Int) - s = 7 ∧ 128 ≤ b))) (h3 : b < 128) (h4 : ¬ (b = 0 ∧ 0 < s)) : numF bits inb p s acc = .ok (acc + b % 128 * 2 ^ s, p + 1) := by
  subst hb; rw [numF, dif_pos h, if_neg h2, if_pos h3, if_neg h4]
theorem numF_more {bits : Nat} {inb : List Int} {p s : Nat} {acc b : Int} (h : p < inb.length) (hb : inb.getD p 0 = b) (h2 : ¬ (((bits : Int) - s < 7 ∧ b / 2 ^ (bits - s) ≠ 0) ∨ ((bits : Int) - s = 7 ∧ 128 ≤ b))) (h3 : ¬ b < 128) : numF bits inb p s acc = numF bits inb (p + 1) (s + 7) (acc + b % 128 * 2 ^ s) := by
  subst hb; rw [numF, dif_pos h, if_neg h2, if_neg h3]

theorem NumPost.ok_mk {w0 w w1 : World} {rb : Nat} {ok : Nat → Prop} {vin : Value} {e : Int} {inb : List Int} {x : Except Int (Int × Nat)} {n : Int} {q : Nat} (hx : x = .ok (n, q)) (h : RLeft w0 w rb ok vin e q inb w1) : NumPost w0 w rb ok vin e inb x (.returned (.int .u64 n)) w1 := by subst hx; exact ⟨rfl, h⟩
theorem NumPost.err_mk {w0 w w1 : World} {rb : Nat} {ok : Nat → Prop} {vin : Value} {e c : Int} {inb : List Int} {x : Except Int (Int × Nat)} {q : Nat} (hx : x = .error c) (h : RLeft w0 w rb ok vin e q inb w1) : NumPost w0 w rb ok vin e inb x (errPanic c) w1 := by subst hx; exact ⟨rfl, q, h⟩

theorem RLeft.refl {w0 w : World} {rb : Nat} {ok : Nat → Prop} {vin : Value} {e : Int} {p : Nat} {inb : List Int} (hR : RdAt w w0.heap.size rb ok vin e p inb) (hB : Below w0.heap.size w0 w) : RLeft w0 w rb ok vin e p inb w := ⟨hR, hB, Kept.refl _ _⟩

theorem acc_next (acc b : Int) (s : Nat) (ha0 : 0 ≤ acc) (ha : acc < 2 ^ s) (h0 : 0 ≤ b) (h1 : b < 128) : 0 ≤ acc + b * 2 ^ s ∧ acc + b * 2 ^ s < 2 ^ (s + 7) := by
  have hp : (0 : Int) < 2 ^ s := Int.pow_pos (by decide)
  have h2 : b * 2 ^ s ≤ 127 * 2 ^ s := Int.mul_le_mul_of_nonneg_right (by omega) (Int.le_of_lt hp)
  have h3 : 0 ≤ b * 2 ^ s := Int.mul_nonneg h0 (Int.le_of_lt hp)
  have h4 : (2 : Int) ^ (s + 7) = 2 ^ s * 128 := by rw [Int.pow_add]; rfl
  rw [h4]; omega

set_option maxHeartbeats 4000000 in
theorem number_calls (w0 w : World) (rb : Nat) (ok : Nat → Prop) (vin : Value) (e : Int) (p : Nat) (inb : List Int) (B : Nat) (hBits : B = 63 ∨ B = 64) (hB : Below w0.heap.size w0 w) (hR : RdAt w w0.heap.size rb ok vin e p inb) :
    Calls Try.prog 49 #[.pointer (some ⟨rb, 0, none⟩), .int .i64 (B : Int)] w (NumPost w0 w rb ok vin e inb (numF B inb p 0 0)) := by
  have HL := Aside0.mk (RLeft.refl hR hB)
  have HBits := Lib.hid hBits
  have hB1 : B ≤ 64 := by omega
  have hB2 : 63 ≤ B := by omega
  have hlen := hR.len
  have HBY := Lib.hid hR.byte
  clear hR hB hBits
  generalize hres : numF B inb p 0 0 = res
  have HRES := Aside0.mk hres
  clear hres
  go_enter Try.func49, Try.ntmps49
  go_wp2
  go_loopg [4, 5] inb.length (fun g v4 v5 w' => ∃ (acc : Int) (s q : Nat), v4 = .int .u64 acc ∧ v5 = .int .i64 s ∧ s < B ∧ s % 7 = 0 ∧ 0 ≤ acc ∧ Aside0 (acc < 2 ^ s) ∧ q ≤ inb.length ∧ Aside0 (g + q = p + inb.length) ∧ Aside0 (numF B inb q s acc = res) ∧ Aside0 (RLeft w0 w rb ok vin e q inb w'))
  case atStart => exact ⟨0, 0, p, rfl, rfl, by omega, by omega, by omega, ⟨by simp⟩, HL.out.rd.le, ⟨by omega⟩, HRES, HL⟩
  case round =>
    obtain ⟨acc, s, q, rfl, rfl, hsB, hs7, ha0, HA, hq, HM, HN, HL⟩ := hrel
    have hs : s ≤ 56 ∨ s = 63 := by omega
    by_cases hend : q < inb.length
    · have hby := HBY.out (inb.getD q 0) (by rw [show inb.getD q 0 = inb[q] by simp [List.getD, hend]]; exact List.getElem_mem hend)
      generalize hb : inb.getD q 0 = b at hby
      have HBD := Lib.hid hb
      clear hb
      have hb0 := hby.1
      have hb1 := hby.2
      clear hby
      by_cases hbad : ((B : Int) - s < 7 ∧ b / 2 ^ (B - s) ≠ 0) ∨ ((B : Int) - s = 7 ∧ 128 ≤ b)
      · have HF := Lib.hid (numF_bad (acc := acc) hend HBD.out hbad)
        rcases hbad with ⟨h1, h2⟩ | ⟨h1, h2⟩
        · have c1 : decide ((B : Int) - (s : Int) < 7) = true := decide_eq_true h1
          have c2 : (b / 2 ^ (B - s) != 0) = true := by simpa using h2
          have hsh := shr_run b B s hsB h1
          have c3 : ((B : Int) - (s : Int) == 7) = false := by rw [beq_eq_false_iff_ne]; omega
          clear h1 h2
          go_wp2_with (first | (go_at_call 52; (refine (next_at w0 _ rb ok vin e q inb hend HL.out.below HL.out.rd).mono ?_; rintro r w1 ⟨rfl, hP⟩; rw [HBD.out]; have HP := Aside0.mk (HL.out.trans hP); clear hP)))
          exact ⟨rfl, NumPost.err_mk (HN.out ▸ HF.out) HP.out⟩
        · have c1 : decide ((B : Int) - (s : Int) < 7) = false := decide_eq_false (by omega)
          have c2 : ((B : Int) - (s : Int) == 7) = true := by rw [beq_iff_eq]; omega
          have c3 : decide (128 ≤ b) = true := decide_eq_true h2
          clear h1 h2
          go_wp2_with (first | (go_at_call 52; (refine (next_at w0 _ rb ok vin e q inb hend HL.out.below HL.out.rd).mono ?_; rintro r w1 ⟨rfl, hP⟩; rw [HBD.out]; have HP := Aside0.mk (HL.out.trans hP); clear hP)))
          exact ⟨rfl, NumPost.err_mk (HN.out ▸ HF.out) HP.out⟩
      · have hlf : b < 128 → (s ≤ 56 ∨ (s = 63 ∧ b % 128 ≤ 1)) := by
          intro h128
          rcases hs with h | h
          · exact .inl h
          · refine .inr ⟨h, ?_⟩
            subst h
            have hB64 : B = 64 := by omega
            subst hB64
            have : b / 2 ^ (64 - 63) = 0 := by
              rcases Decidable.em (b / 2 ^ (64 - 63) = 0) with h | h
              · exact h
              · exact absurd (.inl ⟨by omega, h⟩) hbad
            have h2 : b / 2 = 0 := this
            omega
        have hlm : ¬ b < 128 → s ≤ 56 ∧ s + 7 < B := by
          intro h128
          by_cases hL : (B : Int) - s < 7
          · exfalso
            apply hbad
            refine .inl ⟨hL, ?_⟩
            have h2 : (2 : Int) ^ (B - s) ≤ 2 ^ 6 := by
              have := Nat.pow_le_pow_right (n := 2) (by decide) (show B - s ≤ 6 by omega)
              have h3 : (((2 : Nat) ^ (B - s) : Nat) : Int) ≤ (((2 : Nat) ^ 6 : Nat) : Int) := Int.ofNat_le.2 this
              rw [Int.natCast_pow, Int.natCast_pow] at h3; exact h3
            have hp : (0 : Int) < 2 ^ (B - s) := Int.pow_pos (by decide)
            intro h0
            have h4 := Int.lt_ediv_add_one_mul_self b hp
            rw [h0] at h4
            have h5 : (2 : Int) ^ 6 = 64 := by decide
            omega
          · have : ¬ (B : Int) - s = 7 := fun h7 => hbad (.inr ⟨h7, by omega⟩)
            omega
        have hsplit : ((B : Int) - s < 7 ∧ b / 2 ^ (B - s) = 0) ∨ ((B : Int) - s = 7 ∧ ¬ 128 ≤ b) ∨ 7 < (B : Int) - s := by
          by_cases h1 : (B : Int) - s < 7
          · exact .inl ⟨h1, Decidable.not_not.1 fun h => hbad (.inl ⟨h1, h⟩)⟩
          · by_cases h2 : (B : Int) - s = 7
            · exact .inr (.inl ⟨h2, fun h => hbad (.inr ⟨h2, h⟩)⟩)
            · exact .inr (.inr (by omega))
        have h00 : 0 ≤ (B : Int) - (s : Int) := by omega
        by_cases hsm : b < 128
        · have hsh2 := shl_run (b % 128) s (by omega) (by omega) (hlf hsm)
          have hor := or_acc' acc (b % 128) s ha0 HA.out (by omega) (by omega) (hlf hsm)
          have c4 : decide (b < 128) = true := decide_eq_true hsm
          have c4' : decide (128 ≤ b) = false := decide_eq_false (by omega)
          by_cases hz : b = 0 ∧ 0 < s
          · have HF := Lib.hid (numF_zero (acc := acc) hend HBD.out hbad hsm hz)
            have c5 : (b == 0) = true := by rw [beq_iff_eq]; exact hz.1
            have c6 : decide (0 < s) = true := decide_eq_true hz.2
            have c7 : decide (0 < (s : Int)) = true := decide_eq_true (by omega)
            clear hbad hlf hlm hsm hz
            rcases hsplit with ⟨h1, h2⟩ | ⟨h1, h2⟩ | h1
            · have c1 : decide ((B : Int) - (s : Int) < 7) = true := decide_eq_true h1
              have c2 : (b / 2 ^ (B - s) != 0) = false := by rw [bne_eq_false_iff_eq]; exact h2
              have hsh := shr_run b B s hsB h1
              have c3 : ((B : Int) - (s : Int) == 7) = false := by rw [beq_eq_false_iff_ne]; omega
              clear h1 h2
              go_wp2_with (first | (go_at_call 52; (refine (next_at w0 _ rb ok vin e q inb hend HL.out.below HL.out.rd).mono ?_; rintro r w1 ⟨rfl, hP⟩; rw [HBD.out]; have HP := Aside0.mk (HL.out.trans hP); clear hP)))
              exact ⟨rfl, NumPost.err_mk (HN.out ▸ HF.out) HP.out⟩
            · have c1 : decide ((B : Int) - (s : Int) < 7) = false := decide_eq_false (by omega)
              have c2 : ((B : Int) - (s : Int) == 7) = true := by rw [beq_iff_eq]; omega
              have c3 : decide (128 ≤ b) = false := decide_eq_false h2
              clear h1 h2
              go_wp2_with (first | (go_at_call 52; (refine (next_at w0 _ rb ok vin e q inb hend HL.out.below HL.out.rd).mono ?_; rintro r w1 ⟨rfl, hP⟩; rw [HBD.out]; have HP := Aside0.mk (HL.out.trans hP); clear hP)))
              exact ⟨rfl, NumPost.err_mk (HN.out ▸ HF.out) HP.out⟩
            · have c1 : decide ((B : Int) - (s : Int) < 7) = false := decide_eq_false (by omega)
              have c2 : ((B : Int) - (s : Int) == 7) = false := by rw [beq_eq_false_iff_ne]; omega
              clear h1
              go_wp2_with (first | (go_at_call 52; (refine (next_at w0 _ rb ok vin e q inb hend HL.out.below HL.out.rd).mono ?_; rintro r w1 ⟨rfl, hP⟩; rw [HBD.out]; have HP := Aside0.mk (HL.out.trans hP); clear hP)))
              exact ⟨rfl, NumPost.err_mk (HN.out ▸ HF.out) HP.out⟩

          · have HF := Lib.hid (numF_last (acc := acc) hend HBD.out hbad hsm hz)
            by_cases hz0 : b = 0
            · have hs0 : s = 0 := by omega
              have c5 : (b == 0) = true := by rw [beq_iff_eq]; exact hz0
              have c6 : decide (0 < s) = false := decide_eq_false (by omega)
              have c7 : decide (0 < (s : Int)) = false := decide_eq_false (by omega)
              have HS0 := Lib.hid hs0
              clear hbad hlf hlm hsm hz hz0 hs0
              rcases hsplit with ⟨h1, h2⟩ | ⟨h1, h2⟩ | h1
              · have c1 : decide ((B : Int) - (s : Int) < 7) = true := decide_eq_true h1
                have c2 : (b / 2 ^ (B - s) != 0) = false := by rw [bne_eq_false_iff_eq]; exact h2
                have hsh := shr_run b B s hsB h1
                have c3 : ((B : Int) - (s : Int) == 7) = false := by rw [beq_eq_false_iff_ne]; omega
                clear h1 h2
                go_wp2_with (first | (go_at_call 52; (refine (next_at w0 _ rb ok vin e q inb hend HL.out.below HL.out.rd).mono ?_; rintro r w1 ⟨rfl, hP⟩; rw [HBD.out]; have HP := Aside0.mk (HL.out.trans hP); clear hP)))
                go_ret
                exact NumPost.ok_mk (HN.out ▸ HF.out) HP.out
              · have c1 : decide ((B : Int) - (s : Int) < 7) = false := decide_eq_false (by omega)
                have c2 : ((B : Int) - (s : Int) == 7) = true := by rw [beq_iff_eq]; omega
                have c3 : decide (128 ≤ b) = false := decide_eq_false h2
                clear h1 h2
                go_wp2_with (first | (go_at_call 52; (refine (next_at w0 _ rb ok vin e q inb hend HL.out.below HL.out.rd).mono ?_; rintro r w1 ⟨rfl, hP⟩; rw [HBD.out]; have HP := Aside0.mk (HL.out.trans hP); clear hP)))
                go_ret
                exact NumPost.ok_mk (HN.out ▸ HF.out) HP.out
              · have c1 : decide ((B : Int) - (s : Int) < 7) = false := decide_eq_false (by omega)
                have c2 : ((B : Int) - (s : Int) == 7) = false := by rw [beq_eq_false_iff_ne]; omega
                clear h1
                go_wp2_with (first | (go_at_call 52; (refine (next_at w0 _ rb ok vin e q inb hend HL.out.below HL.out.rd).mono ?_; rintro r w1 ⟨rfl, hP⟩; rw [HBD.out]; have HP := Aside0.mk (HL.out.trans hP); clear hP)))
                go_ret
                exact NumPost.ok_mk (HN.out ▸ HF.out) HP.out

            · have c5 : (b == 0) = false := by rw [beq_eq_false_iff_ne]; exact hz0
              clear hbad hlf hlm hsm hz hz0
              rcases hsplit with ⟨h1, h2⟩ | ⟨h1, h2⟩ | h1
              · have c1 : decide ((B : Int) - (s : Int) < 7) = true := decide_eq_true h1
                have c2 : (b / 2 ^ (B - s) != 0) = false := by rw [bne_eq_false_iff_eq]; exact h2
                have hsh := shr_run b B s hsB h1
                have c3 : ((B : Int) - (s : Int) == 7) = false := by rw [beq_eq_false_iff_ne]; omega
                clear h1 h2
                go_wp2_with (first | (go_at_call 52; (refine (next_at w0 _ rb ok vin e q inb hend HL.out.below HL.out.rd).mono ?_; rintro r w1 ⟨rfl, hP⟩; rw [HBD.out]; have HP := Aside0.mk (HL.out.trans hP); clear hP)))
                go_ret
                exact NumPost.ok_mk (HN.out ▸ HF.out) HP.out
              · have c1 : decide ((B : Int) - (s : Int) < 7) = false := decide_eq_false (by omega)
                have c2 : ((B : Int) - (s : Int) == 7) = true := by rw [beq_iff_eq]; omega
                have c3 : decide (128 ≤ b) = false := decide_eq_false h2
                clear h1 h2
                go_wp2_with (first | (go_at_call 52; (refine (next_at w0 _ rb ok vin e q inb hend HL.out.below HL.out.rd).mono ?_; rintro r w1 ⟨rfl, hP⟩; rw [HBD.out]; have HP := Aside0.mk (HL.out.trans hP); clear hP)))
                go_ret
                exact NumPost.ok_mk (HN.out ▸ HF.out) HP.out
              · have c1 : decide ((B : Int) - (s : Int) < 7) = false := decide_eq_false (by omega)
                have c2 : ((B : Int) - (s : Int) == 7) = false := by rw [beq_eq_false_iff_ne]; omega
                clear h1
                go_wp2_with (first | (go_at_call 52; (refine (next_at w0 _ rb ok vin e q inb hend HL.out.below HL.out.rd).mono ?_; rintro r w1 ⟨rfl, hP⟩; rw [HBD.out]; have HP := Aside0.mk (HL.out.trans hP); clear hP)))
                go_ret
                exact NumPost.ok_mk (HN.out ▸ HF.out) HP.out

        · have hk := hlm hsm
          have hk2 := hk.2
          have hsh2 := shl_run (b % 128) s (by omega) (by omega) (.inl hk.1)
          have hor := or_acc' acc (b % 128) s ha0 HA.out (by omega) (by omega) (.inl hk.1)
          have HF := Lib.hid (numF_more (acc := acc) hend HBD.out hbad hsm)
          have HAN := Lib.hid (acc_next acc (b % 128) s ha0 HA.out (by omega) (by omega))
          have c4 : decide (b < 128) = false := decide_eq_false hsm
          have c4' : decide (128 ≤ b) = true := decide_eq_true (by omega)
          clear hbad hlf hlm hsm hk
          rcases hsplit with ⟨h1, h2⟩ | ⟨h1, h2⟩ | h1
          · have c1 : decide ((B : Int) - (s : Int) < 7) = true := decide_eq_true h1
            have c2 : (b / 2 ^ (B - s) != 0) = false := by rw [bne_eq_false_iff_eq]; exact h2
            have hsh := shr_run b B s hsB h1
            have c3 : ((B : Int) - (s : Int) == 7) = false := by rw [beq_eq_false_iff_ne]; omega
            clear h1 h2
            go_wp2_with (first | (go_at_call 52; (refine (next_at w0 _ rb ok vin e q inb hend HL.out.below HL.out.rd).mono ?_; rintro r w1 ⟨rfl, hP⟩; rw [HBD.out]; have HP := Aside0.mk (HL.out.trans hP); clear hP)))
            go_roundg (p + inb.length - (q + 1))
            case measure => have := HM.out; omega
            case rel => exact ⟨acc + b % 128 * 2 ^ s, s + 7, q + 1, rfl, by go_num, hk2, by omega, HAN.out.1, ⟨HAN.out.2⟩, by omega, ⟨by omega⟩, ⟨HF.out ▸ HN.out⟩, HP⟩
          · exact absurd (of_decide_eq_true c4') h2
          · have c1 : decide ((B : Int) - (s : Int) < 7) = false := decide_eq_false (by omega)
            have c2 : ((B : Int) - (s : Int) == 7) = false := by rw [beq_eq_false_iff_ne]; omega
            clear h1
            go_wp2_with (first | (go_at_call 52; (refine (next_at w0 _ rb ok vin e q inb hend HL.out.below HL.out.rd).mono ?_; rintro r w1 ⟨rfl, hP⟩; rw [HBD.out]; have HP := Aside0.mk (HL.out.trans hP); clear hP)))
            go_roundg (p + inb.length - (q + 1))
            case measure => have := HM.out; omega
            case rel => exact ⟨acc + b % 128 * 2 ^ s, s + 7, q + 1, rfl, by go_num, hk2, by omega, HAN.out.1, ⟨HAN.out.2⟩, by omega, ⟨by omega⟩, ⟨HF.out ▸ HN.out⟩, HP⟩
    · have hqe : q = inb.length := by omega
      have HF := Lib.hid (numF_end (bits := B) (s := s) (acc := acc) hend)
      clear hend
      go_wp2_with (first | (go_at_call 52; (refine (next_end w0 _ rb ok vin e q inb hqe HL.out.below HL.out.rd).mono ?_; rintro r w1 ⟨rfl, hP⟩; have HP := Aside0.mk hP; clear hP)))
      exact ⟨rfl, NumPost.err_mk (HN.out ▸ HF.out) (HL.out.trans HP.out)⟩
end Go.Proofs.Ytpbmfdflmmeghaa.Wire
