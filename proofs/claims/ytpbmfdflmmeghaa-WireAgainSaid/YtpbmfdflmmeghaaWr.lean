import Derived.Test.YtpbmfdflmmeghaaWq
import Derived.Lib.SlBytesConst
namespace Go.Proofs.Ytpbmfdflmmeghaa.Wire
open Go.RowKit Go.Proofs.YtpbmfdflmmeghaaW.PrintWords Go.Proofs.YtpbmfdflmmeghaaW.PrintLast Go.Proofs.YtpbmfdflmmeghaaW.PrintMore
set_option linter.unusedVariables false
set_option linter.unusedSimpArgs false

theorem k8 : uintF [128, 0] 0 = .error 6 := by
  unfold uintF
  rw [numF_more (b := 128) (by decide) rfl (by decide) (by decide), numF_zero (b := 0) (by decide) rfl (by decide) (by decide) (by decide)]
theorem k9 : uintF [5, 255] 0 = .ok (5, 1) := by
  unfold uintF
  rw [numF_last (b := 5) (by decide) rfl (by decide) (by decide) (by decide)]; rfl
theorem k10 : uintF [5, 255] 1 = .error 4 := by
  unfold uintF
  rw [numF_more (b := 255) (by decide) rfl (by decide) (by decide), numF_end (by decide)]
theorem k11 : bytesF 1 [2, 97, 98] 0 = .error 7 := by
  unfold bytesF countF
  rw [numF_last (b := 2) (by decide) rfl (by decide) (by decide) (by decide)]; rfl

/-- A writer that is new since w. -/
abbrev Since (w : World) : Nat → Prop := fun k => w.heap.size ≤ k
theorem WPost.since {w w1 w2 : World} {wb : Nat} {e' : Int} {out' : List Int} {r : Ending} {e'' : Int} {out'' : List Int} (hk : e' = e'' ∧ out' = out'') (hB : Below w.heap.size w w1) (h : WPost w w1 wb (Since w) e' out' r w2) :
    r = .returned (.tuple #[]) ∧ ∃ v', WrAt w2 w.heap.size wb (Since w) v' e'' out'' ∧ Below w.heap.size w w2 ∧ Kept w1 w2 (Since w) := by
  obtain ⟨rfl, rfl⟩ := hk
  obtain ⟨hr, v', hW, hB2, hK⟩ := h
  exact ⟨hr, v', hW.mono (fun k hk' => hk'.elim id (fun h => Nat.le_trans hB.size h)), hB2, hK⟩

theorem ReadPost.over {w0 w : World} {o : Obj} {inb : List Int} {r : Ending} {w' : World} (h : ReadPost w0 (w.alloc o) inb r w') :
    ∃ rb vin, ∃ ok : Nat → Prop, r = .returned (.pointer (some ⟨rb, 0, none⟩)) ∧ w.heap.size ≤ rb ∧ rb < w'.heap.size ∧ (∀ k, ok k → w.heap.size ≤ k ∧ k < rb) ∧ RdAt w' w0.heap.size rb ok vin 0 0 inb ∧ Below w0.heap.size w0 w' ∧ Kept (w.alloc o) w' (fun _ => False) := by
  obtain ⟨rb, vin, hr, h1, h2, h3, h4, h5⟩ := h
  have h6 : w.heap.size + 1 ≤ rb := by simpa using h1
  exact ⟨rb, vin, _, hr, by omega, h2, fun k hk => ⟨by have := hk.1; simp at this; omega, hk.2⟩, h3, h4, h5⟩
theorem C_blk' {k : IntKind} {w : World} {g t : Nat} {cs : Array Value} {fr : Nat × Nat} (h : w.heap[g]? = some (.cells cs t fr)) (xs : List Int) (hc : cs.toList = xs.map (Value.int k)) (hx : xs.length ≤ 9223372036854775807) : (Kd.int k).C w (some ⟨g, 0, none⟩) xs.length xs := by
  refine Kd.C_of_reads (d := (0 : Int)) ⟨rfl, hx, fun _ => ⟨_, rfl, fun j hj => ?_⟩⟩
  rw [add_plain, cell_of_row w g j cs t fr h, ← Array.getElem?_toList, hc]
  simp [List.getD, hj]
theorem C_two (w : World) (a b : Int) (t : TypeId) (k : IntKind) : (Kd.int k).C (w.alloc (.cells #[.int k a, .int k b] t)) (some ⟨w.heap.size, 0, none⟩) [a, b].length [a, b] := C_blk (blk_new _ _) [a, b] rfl (by simp)

set_option maxHeartbeats 4000000 in
theorem known_calls (w : World) : Calls Try.prog 10 #[] w (fun r w' => r = .returned (.bool true) ∧ Below w.heap.size w w') := by
  have HW0 := Lib.hid (WrAt.new (w0 := w) (w := w) (Nat.le_refl _))
  have HB0 := Lib.hid (below_alloc' (Below.refl w.heap.size w) (.cells #[.int .i64 0, .slice none 0 0] 30))
  go_enter Try.func10, Try.ntmps10
  go_wp2_with fail
  refine (Calls.mono (uint_calls w _ _ _ _ _ _ 300 HB0.out HW0.out (by decide) (by decide)) ?_); rintro r w1 hP; obtain ⟨rfl, v1, hW1, hB1, hK1⟩ := WPost.since k1 HB0.out hP; have HW1 := Lib.hid hW1; have HB1 := Lib.hid hB1; clear hP hW1 hB1 hK1 HW0 HB0; go_wp2_with fail
  refine (Calls.mono (int_calls w _ _ _ _ _ _ (-64) HB1.out HW1.out (by decide) (by decide)) ?_); rintro r w2 hP; obtain ⟨rfl, v2, hW2, hB2, hK2⟩ := WPost.since k2 HB1.out hP; have HW2 := Lib.hid hW2; have HB2 := Lib.hid hB2; clear hP hW2 hB2 hK2 HW1 HB1; go_wp2_with fail
  refine (Calls.mono (int_calls w _ _ _ _ _ _ (-9223372036854775808) HB2.out HW2.out (by decide) (by decide)) ?_); rintro r w3 hP; obtain ⟨rfl, v3, hW3, hB3, hK3⟩ := WPost.since k3 HB2.out hP; have HW3 := Lib.hid hW3; have HB3 := Lib.hid hB3; clear hP hW3 hB3 hK3 HW2 HB2; go_wp2_with fail
  refine (Calls.mono (bool_calls w _ _ _ _ _ _ true HB3.out HW3.out) ?_); rintro r w4 hP; obtain ⟨rfl, v4, hW4, hB4, hK4⟩ := WPost.since k4 HB3.out hP; have HW4 := Lib.hid hW4; have HB4 := Lib.hid hB4; clear hP hW4 hB4 hK4 HW3 HB3; go_wp2_with fail
  refine (Calls.mono (string_calls w _ _ _ _ _ _ abS HB4.out HW4.out (by decide)) ?_); rintro r w5 hP; obtain ⟨rfl, v5, hW5, hB5, hK5⟩ := WPost.since k5 HB4.out hP; have HW5 := Lib.hid hW5; have HB5 := Lib.hid hB5; clear hP hW5 hB5 hK5 HW4 HB4; go_wp2_with fail
  have HBa := Lib.hid (below_alloc' HB5.out (.cells #[.int .i64 1, .int .i64 (-1)] 3))
  have HWa := Lib.hid (HW5.out.kept ((Kept.refl w5 (fun _ => False)).alloc (.cells #[.int .i64 1, .int .i64 (-1)] 3)) (fun _ _ => id))
  clear HB5 HW5
  refine (Calls.mono (ints_calls w _ _ _ _ _ _ [1, -1] _ _ HBa.out HWa.out (C_two w5 1 (-1) _ _) (by intro x hx; simp at hx; unfold inI64; omega) (by decide)) ?_); rintro r w6 hP; obtain ⟨rfl, v6, hW6, hB6, hK6⟩ := WPost.since k6 HBa.out hP; have HW6 := Lib.hid hW6; have HB6 := Lib.hid hB6; clear hP hW6 hB6 hK6 HWa HBa; go_wp2_with fail
  refine (end_calls w _ _ _ _ _ _ HB6.out HW6.out).mono ?_
  rintro r w7 ⟨vb, rfl, hOb, hB7, hK7⟩
  rw [if_pos rfl] at hOb
  obtain ⟨Ab, cb, rfl⟩ := Kd.R_slice hOb
  have HOb := Lib.hid hOb; have HB7 := Lib.hid hB7
  clear hOb hB7 hK7 HB6 HW6
  have HB8 := Lib.hid (below_alloc' HB7.out (.cells #[.int .u8 120] 5 (1, 2)))
  have kc := Lib.run_convert_bytes_const (P := Try.prog) w7 28 5 #[.int .u8 120] 1 1 Try.underlying28 Try.underlying5
  have hfr := Lib.hid (frame_calls w (w7.alloc (.cells #[.int .u8 120] 5 (1, 2))) 5 [120] _ 1 HB8.out (C_blk' (blk_new _ _) [120] rfl (by simp)) (by decide) (by decide) (by decide))
  go_wp2_with (first | (go_at_call 15; (refine hfr.out.mono ?_; rintro r w9 ⟨vf, rfl, hOf, hB9, hK9⟩; rw [k7.1, k7.2, if_pos rfl] at hOf; rw [k7.1]; obtain ⟨Af, cf, rfl⟩ := Kd.R_slice hOf; have HOf := Lib.hid hOf; have HB9 := Lib.hid hB9; have HOb9 := Lib.hid (Kd.R_kept (Kd.R_alloc HOb.out _) hK9 (fun _ _ => id)); have hcf : (convert 28 9 (.slice Af 3 cf)).run Try.prog w9 = .ok (.string { data := #[5, 1, 120] }) w9 := Kd.C_string (P := Try.prog) (src := 28) (dst := 9) (e := 5) (c := cf) Try.underlying28 Try.underlying5 Try.underlying9 ((Kd.R_reads' HOf.out).2.2); have hcb : (convert 28 9 (.slice Ab 20 cb)).run Try.prog w9 = .ok (.string { data := #[172, 2, 127, 255, 255, 255, 255, 255, 255, 255, 255, 255, 1, 1, 2, 97, 98, 2, 2, 1] }) w9 := Kd.C_string (P := Try.prog) (src := 28) (dst := 9) (e := 5) (c := cb) Try.underlying28 Try.underlying5 Try.underlying9 ((Kd.R_reads' HOb9.out).2.2); clear hOf hB9 hK9 HOb HB7 HB8 hfr)))
  refine (read_calls w _ [128, 0] _ _ (below_alloc' HB9.out _) (C_two w9 128 0 _ _) (by decide) (by intro x hx; simp at hx; omega)).mono ?_
  rintro r w10 hP; obtain ⟨r1, q1, ok1, rfl, hge1, hlt1, hok1, hR1, hB10, hK10⟩ := hP.over; clear hP
  have HOK1 := Lib.hid hok1; clear hok1
  have HR1 := Lib.hid hR1; have HB10 := Lib.hid hB10
  clear hR1 hB10 hK10 hge1 HB9 HOf HOb9 kc hcf hcb
  go_wp2_with fail
  have HR1a := Lib.hid (HR1.out.kept ((Kept.refl w10 (fun _ => False)).alloc (.cells #[.int .u8 5, .int .u8 255] 5)) id (fun _ _ => id))
  refine (read_calls w _ [5, 255] _ _ (below_alloc' HB10.out _) (C_two w10 5 255 _ _) (by decide) (by intro x hx; simp at hx; omega)).mono ?_
  rintro r w11 hP; obtain ⟨r2, q2, ok2, rfl, hge2, hlt2, hok2, hR2, hB11, hK11⟩ := hP.over; clear hP
  have HOK2 := Lib.hid hok2; clear hok2
  have HR2 := Lib.hid hR2; have HB11 := Lib.hid hB11
  have HR1b := Lib.hid (HR1a.out.kept hK11 id (fun _ _ => id))
  clear hR2 hB11 hK11 HB10 HR1 HR1a
  go_wp2_with fail
  have HR1c := Lib.hid (HR1b.out.kept ((Kept.refl w11 (fun _ => False)).alloc (.cells #[.int .u8 2, .int .u8 97, .int .u8 98] 5)) id (fun _ _ => id))
  have HR2c := Lib.hid (HR2.out.kept ((Kept.refl w11 (fun _ => False)).alloc (.cells #[.int .u8 2, .int .u8 97, .int .u8 98] 5)) id (fun _ _ => id))
  refine (read_calls w _ [2, 97, 98] _ _ (below_alloc' HB11.out _) (C_blk (blk_new _ _) [2, 97, 98] rfl (by simp)) (by decide) (by intro x hx; simp at hx; omega)).mono ?_
  rintro r w12 hP; obtain ⟨r3, q3, ok3, rfl, hge3, hlt3, hok3, hR3, hB12, hK12⟩ := hP.over; clear hP
  have HOK3 := Lib.hid hok3; clear hok3
  have HR3 := Lib.hid hR3; have HB12 := Lib.hid hB12
  have HR1d := Lib.hid (HR1c.out.kept hK12 id (fun _ _ => id))
  have HR2d := Lib.hid (HR2c.out.kept hK12 id (fun _ _ => id))
  clear hR3 hB12 hK12 HB11 HR1b HR1c HR2 HR2c
  go_wp2_with fail
  have u1 : Calls Try.prog 24 #[.pointer (some ⟨r1, 0, none⟩)] w12 (fun r w' => r = .returned (.int .i64 0) ∧ RLeft w w12 r1 ok1 q1 6 0 [128, 0] w') := by
    have h := rdUint_calls w w12 r1 ok1 q1 0 0 [128, 0] HB12.out HR1d.out
    rw [k8] at h; exact h
  refine u1.mono ?_; clear u1
  rintro r w13 ⟨rfl, hL⟩
  have HR2e := Lib.hid (HR2d.out.kept hL.kept (by omega) (fun k hk => by have := HOK2.out k hk; omega))
  have HR3e := Lib.hid (HR3.out.kept hL.kept (by omega) (fun k hk => by have := HOK3.out k hk; omega))
  have HL := Lib.hid hL.rd; have HB13 := Lib.hid hL.below
  clear hL HR2d HR3 HB12 HR1d
  go_wp2_with fail
  refine (rdErr_calls w13 _ r1 _ q1 6 0 [128, 0] HL.out).mono ?_
  rintro r w13' ⟨rfl, rfl⟩
  clear HL
  go_wp2_with fail
  have u2 : Calls Try.prog 24 #[.pointer (some ⟨r2, 0, none⟩)] w13 (fun r w' => r = .returned (.int .i64 5) ∧ RLeft w w13 r2 ok2 q2 0 1 [5, 255] w') := by
    have h := rdUint_calls w w13 r2 _ q2 0 0 [5, 255] HB13.out HR2e.out
    rw [k9] at h; exact h
  refine u2.mono ?_; clear u2
  rintro r w14 ⟨rfl, hL⟩
  have HR3f := Lib.hid (HR3e.out.kept hL.kept (by omega) (fun k hk => by have := HOK3.out k hk; omega))
  have HL := Lib.hid hL.rd; have HB14 := Lib.hid hL.below
  clear hL HR2e HR3e HB13
  go_wp2_with fail
  have u3 : Calls Try.prog 24 #[.pointer (some ⟨r2, 0, none⟩)] w14 (fun r w' => r = .returned (.int .i64 0) ∧ RLeft w w14 r2 ok2 q2 4 1 [5, 255] w') := by
    have h := rdUint_calls w w14 r2 _ q2 0 1 [5, 255] HB14.out HL.out
    rw [k10] at h; exact h
  refine u3.mono ?_; clear u3 HL
  rintro r w15 ⟨rfl, hL⟩
  have HR3g := Lib.hid (HR3f.out.kept hL.kept (by omega) (fun k hk => by have := HOK3.out k hk; omega))
  have HL := Lib.hid hL.rd; have HB15 := Lib.hid hL.below
  clear hL HR3f HB14
  go_wp2_with fail
  refine (rdErr_calls w15 _ r2 _ q2 4 1 [5, 255] HL.out).mono ?_
  rintro r w13' ⟨rfl, rfl⟩
  go_wp2_with fail
  refine (rdAt_calls w15 _ r2 _ q2 4 1 [5, 255] HL.out).mono ?_
  rintro r w13' ⟨rfl, rfl⟩
  clear HL
  go_wp2_with fail
  have u4 : Calls Try.prog 28 #[.pointer (some ⟨r3, 0, none⟩), .int .i64 1] w15 (fun r w' => (∃ v', r = .returned v' ∧ (Kd.int .u8).R 5 w' w.heap.size (fun k => w15.heap.size ≤ k) v' []) ∧ RLeft w w15 r3 ok3 q3 7 0 [2, 97, 98] w') := by
    have h := rdBytes_calls w w15 r3 _ q3 0 0 [2, 97, 98] 1 (by decide) (by decide) HB15.out HR3g.out
    rw [k11] at h; exact h
  refine u4.mono ?_; clear u4
  rintro r w16 ⟨⟨v16, rfl, hO⟩, hL⟩
  obtain ⟨A16, c16, rfl⟩ := Kd.R_slice hO
  have HL := Lib.hid hL.rd; have HB16 := Lib.hid hL.below
  clear hL hO HR3g HB15
  go_wp2_with fail
  refine (rdErr_calls w16 _ r3 _ q3 7 0 [2, 97, 98] HL.out).mono ?_
  rintro r w13' ⟨rfl, rfl⟩
  clear HL
  go_wp2_with fail
  go_ret
  exact ⟨rfl, HB16.out⟩
end Go.Proofs.Ytpbmfdflmmeghaa.Wire
