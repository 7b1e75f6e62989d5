import Derived.Test.YtpbmfdflmmeghaaWp
import Derived.Lib.Hide
namespace Go.Proofs.Ytpbmfdflmmeghaa.Wire
open Go.RowKit Go.Proofs.YtpbmfdflmmeghaaW.PrintWords Go.Proofs.YtpbmfdflmmeghaaW.PrintLast Go.Proofs.YtpbmfdflmmeghaaW.PrintMore
set_option linter.unusedVariables false
set_option linter.unusedSimpArgs false

/-- A row of bytes is handed back: it stands in blocks of ok; what was there is kept but for S. -/
def RowPost (w0 w : World) (ok S : Nat → Prop) (l : List Int) (r : Ending) (w' : World) : Prop :=
  ∃ v', r = .returned v' ∧ (Kd.int .u8).R 5 w' w0.heap.size ok v' l ∧ Below w0.heap.size w0 w' ∧ Kept w w' S

set_option maxHeartbeats 1000000 in
theorem group_calls (w0 w : World) (ok : Nat → Prop) (u : Value) (pre : List Int) (n : Int) (h0 : 0 ≤ n) (hn : n < 18446744073709551616)
    (hB : Below w0.heap.size w0 w) (hO : (Kd.int .u8).R 5 w w0.heap.size ok u pre) (hl : pre.length ≤ 100000000000) :
    Calls Try.prog 42 #[u, .int .u64 n] w (RowPost w0 w (fun k => ok k ∨ w.heap.size ≤ k) ok (pre ++ grp n.toNat)) := by
  obtain ⟨n, rfl⟩ := Int.eq_ofNat_of_zero_le h0
  rw [Int.toNat_natCast]
  have hlen := grp_len10 (n := n) (by omega)
  have HO := Aside0.mk (Kd.R_mono (ok' := fun k => ok k ∨ w.heap.size ≤ k) hO (fun _ hk => .inl hk))
  have HO0 := Aside0.mk hO.1
  have HB := Aside0.mk hB
  have HK := Aside0.mk (Kept.refl w ok)
  have HL := Aside0.mk (show (pre ++ grp n).length ≤ 100000000010 by rw [List.length_append]; omega)
  have hn2 : n < 18446744073709551616 := by omega
  generalize hfin : pre ++ grp n = fin at HL ⊢
  have HE := Aside0.mk hfin
  clear hfin hlen hl hO hB hn h0
  go_enter Try.func42, Try.ntmps42
  go_wp2
  go_loopg [0, 1] n (fun g v0 v1 w' => ∃ (m : Nat) (xs : List Int), v1 = .int .u64 m ∧ Aside0 (xs ++ grp m = fin) ∧ m < 18446744073709551616 ∧ Aside0 (m = g) ∧ Aside0 ((Kd.int .u8).R 5 w' w0.heap.size (fun k => ok k ∨ w.heap.size ≤ k) v0 xs) ∧ Aside0 (Kept w w' ok) ∧ Aside0 (Below w0.heap.size w0 w'))
  case atStart => exact ⟨n, pre, rfl, HE, hn2, ⟨rfl⟩, ⟨(by (with_reducible repeat (first | apply Kd.R_alloc | apply Kd.R_drewN | apply Kd.R_drew)); exact HO.out)⟩, ⟨(by repeat (first | (with_reducible first | exact HK.out | apply Kept.alloc | apply Kept.drewN | apply Kept.drew) | exact HK.out))⟩, ⟨(by repeat (first | (with_reducible first | exact HB.out | apply below_alloc | apply pw_below_drewN | apply below_drew1) | exact HB.out))⟩⟩
  case round =>
    obtain ⟨m, xs, rfl, HE, hm, HM, HO, HK, HB⟩ := hrel
    have HX := Aside0.mk (show xs.length ≤ 100000000010 by have := HL.out; rw [← HE.out, List.length_append] at this; omega)
    by_cases h : m < 128
    · have c1 : decide ((128 : Int) ≤ (m : Int)) = false := decide_eq_false (by omega)
      have HG := Lib.hid (grp_small h)
      clear h
      go_wp2_with (first | ((with_reducible refine gate_builtin (b := .append) (xs := #[.tmp 15, .tmp 18]) rfl ?_); at_builtin; (refine Kd.R_append (Kd.int .u8) (w0 := w0) w0.heap.size rfl (.tmp 15) (.tmp 18) 28 5 (.int .u8 0) 1 rfl Try.underlying28 infoB rfl (by decide) (by omega) u0 xs ((m : Int) % 256) [.int .u8 ((m : Int) % 256)] (fun k => ok k ∨ w.heap.size ≤ k) (fun _ => False) rfl rfl ?aP (fun _ hk => hk.elim) ?aF ?aO ?aB ?aS ?aL ?_; (case aP => exact rfl); (case aB => exact (by repeat (first | (with_reducible first | exact HB.out | apply below_alloc | apply pw_below_drewN | apply below_drew1) | exact HB.out))); (case aF => exact (fun k hk => .inr (Nat.le_trans HK.out.1 hk))); (case aO => first | exact HO.out | exact (by (with_reducible repeat (first | apply Kd.R_alloc | apply Kd.R_drewN | apply Kd.R_drew)); exact HO.out)); (case aS => exact (below_size (by repeat (first | (with_reducible first | exact HB.out | apply below_alloc | apply pw_below_drewN | apply below_drew1) | exact HB.out)))); (case aL => exact (by have := HX.out; omega)); intro v1 w1 hO1 hB1 hG1 hA1; have HO1 := Lib.hid hO1; have HB1 := Lib.hid hB1; have HG1 := Lib.hid hG1; clear hO1 hB1 hG1 hA1)))
      go_ret
      exact ⟨_, rfl, by
        have e : xs ++ [(m : Int) % 256] = fin := by rw [← HE.out, HG.out, Int.emod_eq_of_lt (by omega) (by have := of_decide_eq_false c1; omega)]
        rw [← e]; exact HO1.out, HB1.out, Kept.of_grown HG1.out HK.out HO.out.1⟩
    · have c1 : decide ((128 : Int) ≤ (m : Int)) = true := decide_eq_true (by omega)
      have HG := Lib.hid (grp_big h)
      clear h
      have hor := Lib.hid (or_byte m)
      go_wp2_with (first | ((with_reducible refine gate_builtin (b := .append) (xs := #[.tmp 9, .tmp 13]) rfl ?_); at_builtin; (refine Kd.R_append (Kd.int .u8) (w0 := w0) w0.heap.size rfl (.tmp 9) (.tmp 13) 28 5 (.int .u8 0) 1 rfl Try.underlying28 infoB rfl (by decide) (by omega) u0 xs (Go.bits .or .u8 ((m : Int) % 256) 128) [.int .u8 (Go.bits .or .u8 ((m : Int) % 256) 128)] (fun k => ok k ∨ w.heap.size ≤ k) (fun _ => False) rfl rfl ?aP (fun _ hk => hk.elim) ?aF ?aO ?aB ?aS ?aL ?_; (case aP => exact rfl); (case aB => exact (by repeat (first | (with_reducible first | exact HB.out | apply below_alloc | apply pw_below_drewN | apply below_drew1) | exact HB.out))); (case aF => exact (fun k hk => .inr (Nat.le_trans HK.out.1 hk))); (case aO => first | exact HO.out | exact (by (with_reducible repeat (first | apply Kd.R_alloc | apply Kd.R_drewN | apply Kd.R_drew)); exact HO.out)); (case aS => exact (below_size (by repeat (first | (with_reducible first | exact HB.out | apply below_alloc | apply pw_below_drewN | apply below_drew1) | exact HB.out)))); (case aL => exact (by have := HX.out; omega)); intro v1 w1 hO1 hB1 hG1 hA1; have HO1 := Lib.hid hO1; have HB1 := Lib.hid hB1; have HG1 := Lib.hid hG1; clear hO1 hB1 hG1 hA1)))
      go_roundg (m / 128)
      case measure => have := HM.out; have := of_decide_eq_true c1; omega
      case rel => exact ⟨m / 128, xs ++ [((m % 128 + 128 : Nat) : Int)], by simp, ⟨by rw [← HE.out, HG.out]; simp⟩, by omega, ⟨rfl⟩, ⟨by rw [← hor.out]; exact HO1.out⟩, ⟨Kept.of_grown HG1.out HK.out HO.out.1⟩, ⟨HB1.out⟩⟩

theorem fold_calls (a : Int) (w : World) (h0 : -9223372036854775808 ≤ a) (h1 : a ≤ 9223372036854775807) :
    Calls Try.prog 44 #[.int .i64 a] w fun r w' => r = .returned (.int .u64 (zig a)) ∧ w = w' := by
  have h := Lib.hid (fold_xor a h0 h1)
  go_enter Try.func44, Try.ntmps44
  go_wp2
  go_ret
  exact ⟨by rw [← h.out]; rfl, rfl⟩

theorem refFold_calls (a : Int) (w : World) (h0 : -9223372036854775808 ≤ a) (h1 : a ≤ 9223372036854775807) :
    Calls Try.prog 20 #[.int .i64 a] w fun r w' => r = .returned (.int .u64 (zig a)) ∧ w = w' := by
  by_cases h : 0 ≤ a
  · have hp := Lib.hid (show a * 2 = (zig a : Int) by rw [zig, if_pos h]; omega)
    have c1 : decide (0 ≤ a) = true := decide_eq_true h
    go_enter Try.func20, Try.ntmps20
    go_wp2
    go_ret
    exact ⟨by rw [← hp.out]; rfl, rfl⟩
  · have hp := Lib.hid (show -(a + 1) * 2 + 1 = (zig a : Int) by rw [zig, if_neg h]; omega)
    have c1 : decide (0 ≤ a) = false := decide_eq_false h
    go_enter Try.func20, Try.ntmps20
    go_wp2
    go_ret
    exact ⟨by rw [← hp.out]; rfl, rfl⟩

set_option maxHeartbeats 1000000 in
theorem refGroup_calls (w : World) (n : Int) (h0 : 0 ≤ n) (hn : n < 18446744073709551616) (w0 : World) (hB : Below w0.heap.size w0 w) :
    Calls Try.prog 19 #[.int .u64 n] w (RowPost w0 w (fun k => w.heap.size ≤ k) (fun _ => False) (grp n.toNat)) := by
  obtain ⟨n, rfl⟩ := Int.eq_ofNat_of_zero_le h0
  rw [Int.toNat_natCast]
  have hlen := grp_len10 (n := n) (by omega)
  have HB := Aside0.mk hB
  have HK := Aside0.mk (Kept.refl w (fun _ => False))
  have HL := Aside0.mk (show (grp n).length ≤ 10 by omega)
  have hn2 : n < 18446744073709551616 := by omega
  generalize hfin : grp n = fin at HL ⊢
  have HE := Aside0.mk hfin
  clear hfin hlen hB hn h0
  go_enter Try.func19, Try.ntmps19
  go_wp2
  go_loopg [0, 3] n (fun g v1 v0 w' => ∃ (m : Nat) (xs : List Int), v1 = .int .u64 m ∧ Aside0 (xs ++ grp m = fin) ∧ m < 18446744073709551616 ∧ Aside0 (m = g) ∧ Aside0 ((Kd.int .u8).R 5 w' w0.heap.size (fun k => w.heap.size ≤ k) v0 xs) ∧ Aside0 (Kept w w' (fun _ => False)) ∧ Aside0 (Below w0.heap.size w0 w'))
  case atStart => exact ⟨n, [], rfl, HE, hn2, ⟨rfl⟩, ⟨Kd.R_nil _ _ _ _ _⟩, ⟨(by repeat (first | (with_reducible first | exact HK.out | apply Kept.alloc | apply Kept.drewN | apply Kept.drew) | exact HK.out))⟩, ⟨(by repeat (first | (with_reducible first | exact HB.out | apply below_alloc | apply pw_below_drewN | apply below_drew1) | exact HB.out))⟩⟩
  case round =>
    obtain ⟨m, xs, rfl, HE, hm, HM, HO, HK, HB⟩ := hrel
    have HX := Aside0.mk (show xs.length ≤ 10 by have := HL.out; rw [← HE.out, List.length_append] at this; omega)
    by_cases h : m < 128
    · have c1 : decide ((128 : Int) ≤ (m : Int)) = false := decide_eq_false (by omega)
      have HG := Lib.hid (grp_small h)
      clear h
      go_wp2_with (first | ((with_reducible refine gate_builtin (b := .append) (xs := #[.tmp 15, .tmp 18]) rfl ?_); at_builtin; (refine Kd.R_append (Kd.int .u8) (w0 := w0) w0.heap.size rfl (.tmp 15) (.tmp 18) 28 5 (.int .u8 0) 1 rfl Try.underlying28 infoB rfl (by decide) (by omega) u3 xs ((m : Int) % 256) [.int .u8 ((m : Int) % 256)] (fun k => w.heap.size ≤ k) (fun _ => False) rfl rfl ?aP (fun _ hk => hk.elim) ?aF ?aO ?aB ?aS ?aL ?_; (case aP => exact rfl); (case aB => exact (by repeat (first | (with_reducible first | exact HB.out | apply below_alloc | apply pw_below_drewN | apply below_drew1) | exact HB.out))); (case aF => exact (fun k hk => (Nat.le_trans HK.out.1 hk))); (case aO => first | exact HO.out | exact (by (with_reducible repeat (first | apply Kd.R_alloc | apply Kd.R_drewN | apply Kd.R_drew)); exact HO.out)); (case aS => exact (below_size (by repeat (first | (with_reducible first | exact HB.out | apply below_alloc | apply pw_below_drewN | apply below_drew1) | exact HB.out)))); (case aL => exact (by have := HX.out; omega)); intro v1 w1 hO1 hB1 hG1 hA1; have HO1 := Lib.hid hO1; have HB1 := Lib.hid hB1; have HG1 := Lib.hid hG1; clear hO1 hB1 hG1 hA1)))
      go_ret
      exact ⟨_, rfl, by
        have e : xs ++ [(m : Int) % 256] = fin := by rw [← HE.out, HG.out, Int.emod_eq_of_lt (by omega) (by have := of_decide_eq_false c1; omega)]
        rw [← e]; exact HO1.out, HB1.out, Kept.of_grown HG1.out HK.out (fun k hk => .inr (HO.out.1 k hk))⟩
    · have c1 : decide ((128 : Int) ≤ (m : Int)) = true := decide_eq_true (by omega)
      have HG := Lib.hid (grp_big h)
      clear h
      go_wp2_with (first | ((with_reducible refine gate_builtin (b := .append) (xs := #[.tmp 6, .tmp 11]) rfl ?_); at_builtin; (refine Kd.R_append (Kd.int .u8) (w0 := w0) w0.heap.size rfl (.tmp 6) (.tmp 11) 28 5 (.int .u8 0) 1 rfl Try.underlying28 infoB rfl (by decide) (by omega) u3 xs ((m : Int) % 128 + 128) [.int .u8 ((m : Int) % 128 + 128)] (fun k => w.heap.size ≤ k) (fun _ => False) rfl rfl ?aP (fun _ hk => hk.elim) ?aF ?aO ?aB ?aS ?aL ?_; (case aP => exact rfl); (case aB => exact (by repeat (first | (with_reducible first | exact HB.out | apply below_alloc | apply pw_below_drewN | apply below_drew1) | exact HB.out))); (case aF => exact (fun k hk => (Nat.le_trans HK.out.1 hk))); (case aO => first | exact HO.out | exact (by (with_reducible repeat (first | apply Kd.R_alloc | apply Kd.R_drewN | apply Kd.R_drew)); exact HO.out)); (case aS => exact (below_size (by repeat (first | (with_reducible first | exact HB.out | apply below_alloc | apply pw_below_drewN | apply below_drew1) | exact HB.out)))); (case aL => exact (by have := HX.out; omega)); intro v1 w1 hO1 hB1 hG1 hA1; have HO1 := Lib.hid hO1; have HB1 := Lib.hid hB1; have HG1 := Lib.hid hG1; clear hO1 hB1 hG1 hA1)))
      go_roundg (m / 128)
      case measure => have := HM.out; have := of_decide_eq_true c1; omega
      case rel => exact ⟨m / 128, xs ++ [((m : Int) % 128 + 128)], by simp, ⟨by rw [← HE.out, HG.out]; simp⟩, by omega, ⟨rfl⟩, ⟨HO1.out⟩, ⟨Kept.of_grown HG1.out HK.out (fun k hk => .inr (HO.out.1 k hk))⟩, ⟨HB1.out⟩⟩
end Go.Proofs.Ytpbmfdflmmeghaa.Wire
