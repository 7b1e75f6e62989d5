import Derived.Test.YtpbmfdflmmeghaaWj
import Derived.StillTailTactics
namespace Go.Proofs.Ytpbmfdflmmeghaa.Wire
open Go.RowKit Go.Proofs.YtpbmfdflmmeghaaW.PrintWords Go.Proofs.YtpbmfdflmmeghaaW.PrintLast Go.Proofs.YtpbmfdflmmeghaaW.PrintMore
set_option linter.unusedVariables false
set_option linter.unusedSimpArgs false

def bytesF (limit : Int) (inb : List Int) (p : Nat) : Except Int (List Int × Nat) :=
  match countF limit inb p with
  | .ok (n, q) => if (inb.length : Int) - q < n then .error 4 else .ok ((inb.take (q + n.toNat)).drop q, q + n.toNat)
  | .error c => .error c

/-- A reading step that hands back a row of its own. -/
def RowRet (k : IntKind) (t : TypeId) (w0 w : World) (rb : Nat) (ok : Nat → Prop) (vin : Value) (e : Int) (inb : List Int) (x : Except Int (List Int × Nat)) (r : Ending) (w' : World) : Prop :=
  match x with
  | .ok (l, q) => (∃ v', r = .returned v' ∧ (Kd.int k).R t w' w0.heap.size (fun k => w.heap.size ≤ k) v' l) ∧ RLeft w0 w rb ok vin e q inb w'
  | .error c => r = errPanic c ∧ ∃ q, RLeft w0 w rb ok vin e q inb w'
theorem RowRet.ok_mk {k : IntKind} {t : TypeId} {w0 w w1 : World} {rb : Nat} {ok : Nat → Prop} {vin : Value} {e : Int} {inb : List Int} {x : Except Int (List Int × Nat)} {l : List Int} {q : Nat} {v' : Value} (hx : x = .ok (l, q)) (hO : (Kd.int k).R t w1 w0.heap.size (fun k => w.heap.size ≤ k) v' l) (h : RLeft w0 w rb ok vin e q inb w1) : RowRet k t w0 w rb ok vin e inb x (.returned v') w1 := by subst hx; exact ⟨⟨_, rfl, hO⟩, h⟩
theorem RowRet.err_mk {k : IntKind} {t : TypeId} {w0 w w1 : World} {rb : Nat} {ok : Nat → Prop} {vin : Value} {e c : Int} {inb : List Int} {x : Except Int (List Int × Nat)} {q : Nat} (hx : x = .error c) (h : RLeft w0 w rb ok vin e q inb w1) : RowRet k t w0 w rb ok vin e inb x (errPanic c) w1 := by subst hx; exact ⟨rfl, q, h⟩

theorem VarAt.kept {w w' : World} {bx rb : Nat} {S : Nat → Prop} (h : VarAt w bx rb) (hk : Kept w w' S) (hne : ¬ S bx) : VarAt w' bx rb := blk_kept h hk hne
theorem LimAt.kept {w w' : World} {bl : Nat} {n : Int} {S : Nat → Prop} (h : LimAt w bl n) (hk : Kept w w' S) (hne : ¬ S bl) : LimAt w' bl n := blk_kept h hk hne
theorem RdAt.ne_var {w : World} {base bx rb : Nat} {ok : Nat → Prop} {vin : Value} {e : Int} {p : Nat} {inb : List Int} (h : RdAt w base rb ok vin e p inb) (hV : VarAt w bx rb) : bx ≠ rb := blk_ne hV h.blk (by decide)

theorem countF_range {limit : Int} {inb : List Int} {p : Nat} {n : Int} {q : Nat} (hby : ∀ x ∈ inb, 0 ≤ x ∧ x < 256) (h : countF limit inb p = .ok (n, q)) : 0 ≤ n ∧ n < 9223372036854775808 ∧ n ≤ limit ∧ p < q ∧ q ≤ inb.length := by
  unfold countF at h
  cases hn : numF 63 inb p 0 0 with
  | error c => rw [hn] at h; cases h
  | ok nq =>
    obtain ⟨m, r⟩ := nq
    rw [hn] at h
    simp only at h
    by_cases c1 : limit < 0
    · rw [if_pos c1] at h; cases h
    · rw [if_neg c1] at h
      by_cases c2 : limit < m
      · rw [if_pos c2] at h; cases h
      · rw [if_neg c2] at h
        cases h
        obtain ⟨h0, h1, h2, h3⟩ := numF_range (B := 63) (by omega) hby _ p 0 0 (Nat.le_refl _) (by omega) (by omega) (by decide) _ _ hn
        exact ⟨h0, h1, by omega, h2, h3⟩

set_option maxHeartbeats 2000000 in
theorem bytes1_calls (w0 w : World) (bx bl rb : Nat) (ok : Nat → Prop) (vin : Value) (e : Int) (p : Nat) (inb : List Int) (limit : Int) (hl0 : -9223372036854775808 ≤ limit) (hl1 : limit ≤ 9223372036854775807) (hV : VarAt w bx rb) (hM : LimAt w bl limit) (hB : Below w0.heap.size w0 w) (hR : RdAt w w0.heap.size rb ok vin e p inb) :
    Calls Try.prog 54 #[.pointer (some ⟨bx, 0, none⟩), .pointer (some ⟨bl, 0, none⟩)] w (RowRet .u8 5 w0 w rb ok vin e inb (bytesF limit inb p)) := by
  have hbx : w.cell? ⟨bx, 0, none⟩ = some (.pointer (some ⟨rb, 0, none⟩)) := (blk_cell hV 0).trans rfl
  have hbl : w.cell? ⟨bl, 0, none⟩ = some (.int .i64 limit) := (blk_cell hM 0).trans rfl
  have hc := Lib.hid (count_calls w0 w rb ok vin e p inb limit hl0 hl1 hB hR)
  have hby := hR.byte
  have hne := Lib.hid (hR.ne_var hV)
  have HV := Lib.hid hV
  obtain ⟨A1, c1, rfl⟩ := Kd.R_slice hR.own
  have hlen := hR.len
  have hcap := (Kd.R_reads' hR.own).2.1
  clear hB hR hV hM
  cases hn : countF limit inb p with
  | error c =>
    have HF := Lib.hid (show bytesF limit inb p = .error c by unfold bytesF; rw [hn])
    have HC := Lib.hid (ret_err hn hc.out)
    clear hn hc hby
    go_enter Try.func54, Try.ntmps54
    go_wp2_with (first | (go_at_call 55; (refine HC.out.mono ?_; rintro r w1 ⟨rfl, q, hL⟩; have HL := Aside0.mk hL; clear hL)))
    exact ⟨rfl, RowRet.err_mk HF.out HL.out⟩
  | ok nq =>
    obtain ⟨n, q⟩ := nq
    have HC := Lib.hid (ret_ok hn hc.out)
    obtain ⟨hn0, hn1, hn2, hq1, hq2⟩ := countF_range hby hn
    have harm : ∀ q w1, RLeft w0 w rb ok (.slice A1 inb.length c1) e q inb w1 → w1.cell? ⟨bx, 0, none⟩ = some (.pointer (some ⟨rb, 0, none⟩)) ∧ w1.cell? ⟨rb, 1, none⟩ = some (.slice A1 inb.length c1) ∧ w1.cell? ⟨rb, 2, none⟩ = some (.int .i64 q) ∧ w1.frozen? ⟨rb, 2, none⟩ = false := fun q w1 hL =>
      ⟨(blk_cell (HV.out.kept hL.kept hne.out) 0).trans rfl, (blk_cell hL.rd.blk 1).trans rfl, (blk_cell hL.rd.blk 2).trans rfl, blk_frozen hL.rd.blk 2⟩
    have HA := Lib.hid harm
    obtain ⟨m, rfl⟩ := Int.eq_ofNat_of_zero_le hn0
    clear harm hc hby hn0
    by_cases hs : (inb.length : Int) - q < (m : Int)
    · have HF := Lib.hid (show bytesF limit inb p = .error 4 by unfold bytesF; rw [hn]; simp only [if_pos hs])
      have d1 : decide ((inb.length : Int) - (q : Int) < (m : Int)) = true := decide_eq_true hs
      clear hn hs
      go_enter Try.func54, Try.ntmps54
      go_wp2_with (first | (go_at_call 55; (refine HC.out.mono ?_; rintro r w1 ⟨rfl, hL⟩; obtain ⟨g1, g2, g3, g4⟩ := HA.out q w1 hL; have HL := Aside0.mk hL; clear hL)))
      go_quiet (fail)
      go_wp2
      exact ⟨rfl, RowRet.err_mk HF.out ⟨HL.out.rd.drewN _, pw_below_drewN HL.out.below _, HL.out.kept.drewN _⟩⟩
    · have HF := Lib.hid (show bytesF limit inb p = .ok ((inb.take (q + m)).drop q, q + m) by unfold bytesF; rw [hn]; simp only [if_neg hs, Int.toNat_natCast])
      have d1 : decide ((inb.length : Int) - (q : Int) < (m : Int)) = false := decide_eq_false hs
      clear hn
      go_enter Try.func54, Try.ntmps54
      go_wp2_with (first | (go_at_call 55; (refine HC.out.mono ?_; rintro r w1 ⟨rfl, hL⟩; obtain ⟨g1, g2, g3, g4⟩ := HA.out q w1 hL; have HL := Aside0.mk hL; clear hL)))
      go_quiet (fail)
      go_wp2
      obtain ⟨w2, hw2⟩ : ∃ w2, w2 = (w1.drewN nq).setCell ⟨rb, 2, none⟩ (.int .i64 ((q : Int) + (m : Int))) := ⟨_, rfl⟩
      rw [← hw2]
      have hL2 : RLeft w0 w rb ok (.slice A1 inb.length c1) e (q + m) inb w2 := by
        rw [hw2, show ((q : Int) + (m : Int)) = ((q + m : Nat) : Int) by omega]
        exact ⟨(HL.out.rd.drewN nq).setP (q + m) (by omega), (pw_below_drewN HL.out.below _).setCell HL.out.rd.hb _, Kept.setCell (S := fun k => k = rb) (HL.out.kept.drewN nq) (p := ⟨rb, 2, none⟩) (.inl rfl) _⟩
      obtain ⟨i0, hi0, _, hsz0, _⟩ := info_parts infoB
      obtain ⟨A', hrun, hread, hle'⟩ := print_mid_int (P := Try.prog) (k := .u8) 28 5 Try.underlying28 hi0 hsz0 A1 c1 inb (q : Int) ((q : Int) + (m : Int)) (by omega) (by omega) (by omega) hcap
      rw [show ((q : Int) + (m : Int)).toNat = q + m by omega, Int.toNat_natCast] at hrun hread hle'
      have hLL : ((inb.take (q + m)).drop q).length ≤ 100000000000 := by rw [List.length_drop, List.length_take]; omega
      obtain ⟨L, hL⟩ : ∃ L, (inb.take (q + m)).drop q = L := ⟨_, rfl⟩
      rw [hL] at hrun hread hle' hLL HF
      clear hL
      have HRD := Lib.hid hread
      clear hw2 g1 g2 g3 g4 hread
      obtain ⟨g1, g2, g3, g4⟩ := HA.out (q + m) w2 hL2
      have HL2 := Aside0.mk hL2
      clear hL2
      have hwq : IntKind.i64.wrap (q : Int) = (q : Int) := by rw [IntKind.wrap_i64]; omega
      refine wp_region_still_tail 15 (by kernel_rfl) (by kernel_rfl) ?_
      simp only [List.take_succ_cons, List.take_zero, List.drop_succ_cons, List.drop_zero]
      change wpStill _ _ w2.drew _ _ _
      repeat still_step
      refine wpStill_nil ?_
      change wpList _ _ _ _ _ w2.drew
      clear hwq hrun
      go_wp2_with (first | (go_at_call 40; (refine (clone_calls w0 w2.drew L A' (c1 - q) (pw_below_drewN HL2.out.below 1) (Kd.C_of_reads (d := (0 : Int)) (HRD.out w2.drew (Kd.reads_of_C ((Kd.R_reads' (HL2.out.rd.drewN 1).own).2.2)))) hLL).mono ?_; rintro r w3 ⟨v3, rfl, hO, hB3, hK3⟩; have HO := Aside0.mk hO; have HB3 := Aside0.mk hB3; have HK3 := Aside0.mk hK3; clear hO hB3 hK3)))
      go_ret
      exact RowRet.ok_mk HF.out (Kd.R_mono HO.out (fun k hk => Nat.le_trans HL2.out.kept.1 hk)) ⟨(HL2.out.rd.drewN 1).kept HK3.out id (fun _ _ => id), HB3.out, (HL2.out.kept.drewN 1).then_ HK3.out (fun _ h => h.elim)⟩
end Go.Proofs.Ytpbmfdflmmeghaa.Wire
