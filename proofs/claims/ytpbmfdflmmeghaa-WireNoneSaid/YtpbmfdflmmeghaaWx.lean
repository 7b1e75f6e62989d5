import Derived.Test.YtpbmfdflmmeghaaWw
import Derived.Test.YtpbmfdflmmeghaaWu
namespace Go.Proofs.Ytpbmfdflmmeghaa.Wire
open Go.RowKit Go.Proofs.YtpbmfdflmmeghaaW.PrintWords Go.Proofs.YtpbmfdflmmeghaaW.PrintLast Go.Proofs.YtpbmfdflmmeghaaW.PrintMore
set_option linter.unusedVariables false
set_option linter.unusedSimpArgs false

theorem nilUint_calls (w : World) (n : Int) : Calls Try.prog 17 #[.pointer none, .int .i64 n] w (fun r w' => r = .returned (.tuple #[]) ∧ w = w') := by
  go_enter Try.func17, Try.ntmps17
  go_wp2
  go_end0
  exact ⟨rfl, rfl⟩
theorem nilBytes_calls (w : World) (v : Value) : Calls Try.prog 14 #[.pointer none, v] w (fun r w' => r = .returned (.tuple #[]) ∧ w = w') := by
  go_enter Try.func14, Try.ntmps14
  go_wp2
  go_end0
  exact ⟨rfl, rfl⟩
theorem nilEnd_calls (w : World) : Calls Try.prog 13 #[.pointer none] w (fun r w' => r = .returned (.tuple #[.slice none 0 0, .int .i64 1]) ∧ w = w') := by
  go_enter Try.func13, Try.ntmps13
  go_wp2
  go_ret2
  exact ⟨rfl, rfl⟩
theorem nilWrite0 (w : World) (n : Int) : Calls Try.prog 11 #[.pointer none, .agg #[.int .u8 0, .int .i64 n, .slice none 0 0, .slice none 0 0]] w (fun r w' => r = .returned (.tuple #[]) ∧ w.alloc (.cells #[.int .u8 0, .int .i64 n, .slice none 0 0, .slice none 0 0] 35) = w') := by
  go_enter Try.func11, Try.ntmps11
  go_wp2_with (first | (go_at_call 17; refine (nilUint_calls _ _).mono ?_; rintro r w' ⟨rfl, rfl⟩))
  go_end0
  exact ⟨rfl, rfl⟩
theorem nilWrite3 (w : World) (A : Option Addr) (m c : Nat) : Calls Try.prog 11 #[.pointer none, .agg #[.int .u8 3, .int .i64 0, .slice A m c, .slice none 0 0]] w (fun r w' => r = .returned (.tuple #[]) ∧ w.alloc (.cells #[.int .u8 3, .int .i64 0, .slice A m c, .slice none 0 0] 35) = w') := by
  go_enter Try.func11, Try.ntmps11
  go_wp2_with (first | (go_at_call 14; refine (nilBytes_calls _ _).mono ?_; rintro r w' ⟨rfl, rfl⟩))
  go_end0
  exact ⟨rfl, rfl⟩

/-- The two readers of the law. -/
def TwoRd (w : World) (ab rb : Nat) : Prop := w.heap[ab]? = some (.cells #[.pointer none, .pointer (some ⟨rb, 0, none⟩)] 48 (0, 0)) ∧ NoRd w (some ⟨rb, 0, none⟩)
theorem TwoRd.kept {w w' : World} {ab rb : Nat} (h : TwoRd w ab rb) (hk : Kept w w' (fun _ => False)) : TwoRd w' ab rb := ⟨blk_kept h.1 hk id, h.2.kept hk⟩
theorem TwoRd.at {w : World} {ab rb : Nat} (h : TwoRd w ab rb) (k : Nat) (hk : k < 2) : ∃ P, w.cell? (Addr.add ⟨ab, 0, none⟩ k) = some (.pointer P) ∧ w.cell? ⟨ab, k, none⟩ = some (.pointer P) ∧ NoRd w P := by
  match k with
  | 0 => exact ⟨none, (blk_cell h.1 0).trans rfl, (blk_cell h.1 0).trans rfl, .inl rfl⟩
  | 1 => exact ⟨_, (blk_cell h.1 1).trans rfl, (blk_cell h.1 1).trans rfl, h.2⟩

set_option maxRecDepth 100000 in
set_option maxHeartbeats 4000000 in
theorem none_walk (n : Int) (A : Option Addr) (c : Nat) (l : List Int) (w : World) :
    Calls Try.prog 8 #[.int .i64 n, .slice A l.length c] w (fun r w' => r = .returned (.bool true) ∧ Below w.heap.size w w') := by
  by_cases hlo : 50 < l.length
  · have d1 : decide (50 < (l.length : Int)) = true := decide_eq_true (by omega)
    go_enter Try.func8, Try.ntmps8
    go_wp2_with (first | (go_at_call 10; refine (known_calls _).mono ?_; rintro r w1 ⟨rfl, hb⟩; have HB := Lib.hid hb; clear hb))
    go_ret
    exact ⟨rfl, HB.out⟩
  have d1 : decide (50 < (l.length : Int)) = false := decide_eq_false (by omega)
  go_enter Try.func8, Try.ntmps8
  go_wp2_with fail
  refine (nilWrite0 _ _).mono ?_; rintro r w1 ⟨rfl, h1⟩
  have HK1 := Lib.hid (show Kept w w1 (fun _ => False) by rw [← h1]; exact (Kept.refl _ _).alloc _)
  have HB1 := Lib.hid (show Below w.heap.size w w1 by rw [← h1]; exact below_alloc' (Below.refl _ _) _)
  clear h1
  go_wp2_with fail
  refine (nilWrite3 _ _ _ _).mono ?_; rintro r w2 ⟨rfl, h2⟩
  have HK2 := Lib.hid (show Kept w w2 (fun _ => False) by rw [← h2]; exact HK1.out.alloc _)
  have HB2 := Lib.hid (show Below w.heap.size w w2 by rw [← h2]; exact below_alloc' HB1.out _)
  clear h2 HK1 HB1
  go_wp2_with fail
  refine (nilEnd_calls _).mono ?_; rintro r w3 ⟨rfl, rfl⟩
  go_wp2_with fail
  go_loopg [40] 2 (fun g v40 w' => ∃ k : Nat, v40 = .int .i64 k ∧ k ≤ 2 ∧ Aside0 (g + k = 2) ∧ Aside0 (TwoRd w' (w2.heap.size + 1) w2.heap.size) ∧ Aside0 (Below w.heap.size w w'))
  case atStart =>
    refine ⟨0, rfl, by omega, ⟨rfl⟩, ⟨⟨by have := blk_new (w2.alloc (.cells #[.int .i64 0, .slice none 0 0, .int .i64 0, .bool false] 61)) (.cells #[.pointer none, .pointer (some ⟨w2.heap.size, 0, none⟩)] 48); simpa using this, .inr ⟨_, rfl, blk_alloc (blk_new _ _) _⟩⟩⟩, ⟨below_alloc' (below_alloc' HB2.out _) _⟩⟩
  case round =>
    obtain ⟨k, rfl, hk, HM, HT, HB⟩ := hrel
    by_cases h : k < 2
    · have c1 : decide ((k : Int) < 2) = true := decide_eq_true (by omega)
      obtain ⟨P, hcell, hcell', hP⟩ := HT.out.at k h
      have HN := Lib.hid hP
      clear hP
      go_wp2_with fail
      refine (noFail_calls _ P 2 HN.out).mono ?_; rintro r w3 ⟨rfl, rfl⟩
      clear hcell hcell'
      have HN0 := HN
      have HB0 := HB
      have HT0 := HT
      clear HN HB HT
      go_wp2_with fail
      refine (noUint_calls w _ P  HB0.out HN0.out).mono ?_; rintro r wr1 ⟨rfl, hB, hK⟩
      have HB1 := Lib.hid hB; have HN1 := Lib.hid (HN0.out.kept hK); have HT1 := Lib.hid (HT0.out.kept hK)
      clear hB hK HB0 HN0 HT0
      go_wp2_with fail
      refine (noInt_calls w wr1 P  HB1.out HN1.out).mono ?_; rintro r wr2 ⟨rfl, hB, hK⟩
      have HB2 := Lib.hid hB; have HN2 := Lib.hid (HN1.out.kept hK); have HT2 := Lib.hid (HT1.out.kept hK)
      clear hB hK HB1 HN1 HT1
      go_wp2_with fail
      refine (noBool_calls w wr2 P  HB2.out HN2.out).mono ?_; rintro r wr3 ⟨rfl, hB, hK⟩
      have HB3 := Lib.hid hB; have HN3 := Lib.hid (HN2.out.kept hK); have HT3 := Lib.hid (HT2.out.kept hK)
      clear hB hK HB2 HN2 HT2
      go_wp2_with fail
      refine (noCount_calls w wr3 P n HB3.out HN3.out).mono ?_; rintro r wr4 ⟨rfl, hB, hK⟩
      have HB4 := Lib.hid hB; have HN4 := Lib.hid (HN3.out.kept hK); have HT4 := Lib.hid (HT3.out.kept hK)
      clear hB hK HB3 HN3 HT3
      go_wp2_with fail
      refine (noBytes_calls w wr4 P n HB4.out HN4.out).mono ?_; rintro r wr5 ⟨rfl, hB, hK⟩
      have HB5 := Lib.hid hB; have HN5 := Lib.hid (HN4.out.kept hK); have HT5 := Lib.hid (HT4.out.kept hK)
      clear hB hK HB4 HN4 HT4
      go_wp2_with fail
      refine (noString_calls w wr5 P n HB5.out HN5.out).mono ?_; rintro r wr6 ⟨rfl, hB, hK⟩
      have HB6 := Lib.hid hB; have HN6 := Lib.hid (HN5.out.kept hK); have HT6 := Lib.hid (HT5.out.kept hK)
      clear hB hK HB5 HN5 HT5
      go_wp2_with fail
      refine (noInts_calls w wr6 P n HB6.out HN6.out).mono ?_; rintro r wr7 ⟨rfl, hB, hK⟩
      have HB7 := Lib.hid hB; have HN7 := Lib.hid (HN6.out.kept hK); have HT7 := Lib.hid (HT6.out.kept hK)
      clear hB hK HB6 HN6 HT6
      go_wp2_with fail
      refine (noAt_calls _ P HN7.out).mono ?_; rintro r w4 ⟨rfl, rfl⟩
      go_wp2_with fail
      refine (noErr_calls _ P HN7.out).mono ?_; rintro r w5 ⟨rfl, rfl⟩
      go_wp2_with fail
      refine (noEnd_calls _ P HN7.out).mono ?_; rintro r w6 ⟨rfl, m, rfl⟩
      go_wp2_with fail
      go_roundg (2 - (k + 1))
      case measure => have := HM.out; omega
      case rel => exact ⟨k + 1, by go_num, by omega, ⟨by omega⟩, ⟨HT7.out.kept ((Kept.refl _ _).drewN m)⟩, ⟨pw_below_drewN HB7.out m⟩⟩
    · have c1 : decide ((k : Int) < 2) = false := decide_eq_false (by omega)
      go_wp2_with fail
      refine (known_calls _).mono ?_
      rintro r w7 ⟨rfl, hb⟩
      have HBx := Lib.hid (Below.trans' HB.out hb)
      clear hb
      go_wp2_with fail
      go_ret
      exact ⟨rfl, HBx.out⟩
theorem none_law (n : Int) (A : Option Addr) (c : Nat) (l : List Int) (w : World) (h : (Lit.int .i64 n).wf = true) (hC : (Kd.int .u8).C w A l.length l) (hc : l.length ≤ c) (hm : l.length ≤ maxLen) (y : l.length * 1 ≤ 140737488351232) (hw : ∀ x ∈ l, (Lit.int .u8 x).wf = true) :
    Calls Try.prog 8 #[.int .i64 n, .slice A l.length c] w (fun r w' => r = .returned (.bool true) ∧ Below w.heap.size w w') := none_walk n A c l w
end Go.Proofs.Ytpbmfdflmmeghaa.Wire
