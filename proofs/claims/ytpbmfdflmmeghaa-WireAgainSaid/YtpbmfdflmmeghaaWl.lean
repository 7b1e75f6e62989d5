import Derived.Test.YtpbmfdflmmeghaaWk
namespace Go.Proofs.Ytpbmfdflmmeghaa.Wire
open Go.RowKit Go.Proofs.YtpbmfdflmmeghaaW.PrintWords Go.Proofs.YtpbmfdflmmeghaaW.PrintLast Go.Proofs.YtpbmfdflmmeghaaW.PrintMore
set_option linter.unusedVariables false
set_option linter.unusedSimpArgs false

theorem infoI : (Try.prog.info? 3).map (fun i => (i.zero, i.size, i.bytes)) = some (some (.int .i64 0), 1, 8) := by kernel_rfl

def listF (inb : List Int) : Nat → Nat → List Int → Except Int (List Int × Nat)
  | 0, q, acc => .ok (acc, q)
  | k + 1, q, acc => match intF inb q with | .ok (x, q') => listF inb k q' (acc ++ [x]) | .error c => .error c

def intsF (limit : Int) (inb : List Int) (p : Nat) : Except Int (List Int × Nat) :=
  match countF limit inb p with
  | .ok (n, q) => listF inb n.toNat q []
  | .error c => .error c

theorem intF_range {inb : List Int} {p : Nat} {n : Int} {q : Nat} (hby : ∀ x ∈ inb, 0 ≤ x ∧ x < 256) (h : intF inb p = .ok (n, q)) : inI64 n ∧ p < q ∧ q ≤ inb.length := by
  unfold intF at h
  cases hn : numF 64 inb p 0 0 with
  | error c => rw [hn] at h; cases h
  | ok nq =>
    obtain ⟨m, r⟩ := nq
    rw [hn] at h
    cases h
    obtain ⟨h0, h1, h2, h3⟩ := numF_range (B := 64) (by omega) hby _ p 0 0 (Nat.le_refl _) (by omega) (by omega) (by decide) _ _ hn
    have h1 : m < 18446744073709551616 := h1
    refine ⟨?_, h2, h3⟩
    unfold inI64 unz
    split <;> omega

set_option maxHeartbeats 2000000 in
theorem ints1_calls (w0 w : World) (bx bl rb : Nat) (ok : Nat → Prop) (vin : Value) (e : Int) (p : Nat) (inb : List Int) (limit : Int) (hl0 : -9223372036854775808 ≤ limit) (hl1 : limit ≤ 9223372036854775807) (hV : VarAt w bx rb) (hM : LimAt w bl limit) (hB : Below w0.heap.size w0 w) (hR : RdAt w w0.heap.size rb ok vin e p inb) (hok : ∀ k, ok k → k < w.heap.size) :
    Calls Try.prog 57 #[.pointer (some ⟨bx, 0, none⟩), .pointer (some ⟨bl, 0, none⟩)] w (RowRet .i64 3 w0 w rb ok vin e inb (intsF limit inb p)) := by
  have hbx : w.cell? ⟨bx, 0, none⟩ = some (.pointer (some ⟨rb, 0, none⟩)) := (blk_cell hV 0).trans rfl
  have hbl : w.cell? ⟨bl, 0, none⟩ = some (.int .i64 limit) := (blk_cell hM 0).trans rfl
  have hc := Lib.hid (count_calls w0 w rb ok vin e p inb limit hl0 hl1 hB hR)
  have hby := hR.byte
  have hne := Lib.hid (hR.ne_var hV)
  have HV := Lib.hid hV
  have HOK := Lib.hid hok
  have hrb := Lib.hid (blk_lt hR.blk)
  have hlen := hR.len
  clear hB hR hV hM hok
  cases hn : countF limit inb p with
  | error c =>
    have HF := Lib.hid (show intsF limit inb p = .error c by unfold intsF; rw [hn])
    have HC := Lib.hid (ret_err hn hc.out)
    clear hn hc hby
    go_enter Try.func57, Try.ntmps57
    go_wp2_with (first | (go_at_call 55; (refine HC.out.mono ?_; rintro r w1 ⟨rfl, q, hL⟩; have HL := Aside0.mk hL; clear hL)))
    exact ⟨rfl, RowRet.err_mk HF.out HL.out⟩
  | ok nq =>
    obtain ⟨n, q0⟩ := nq
    have HC := Lib.hid (ret_ok hn hc.out)
    obtain ⟨hn0, hn1, hn2, hq1, hq2⟩ := countF_range hby hn
    obtain ⟨m, rfl⟩ := Int.eq_ofNat_of_zero_le hn0
    have HF := Lib.hid (show intsF limit inb p = listF inb m q0 [] by unfold intsF; rw [hn]; simp only [Int.toNat_natCast])
    generalize hres : listF inb m q0 [] = res at HF
    have HRES := Aside0.mk hres
    have HBY := Lib.hid hby
    clear hn hc hby hres hn0
    go_enter Try.func57, Try.ntmps57
    go_wp2_with (first | (go_at_call 55; (refine HC.out.mono ?_; rintro r w1 ⟨rfl, hL⟩; have HL := Aside0.mk hL; clear hL)))
    go_loopg [2, 6] m (fun g v2 v6 w' => ∃ (i q : Nat) (acc : List Int), v6 = .int .i64 i ∧ i ≤ m ∧ Aside0 (g + i = m) ∧ Aside0 (listF inb (m - i) q acc = res) ∧ q ≤ inb.length ∧ Aside0 (acc.length ≤ q) ∧ Aside0 ((Kd.int .i64).R 3 w' w0.heap.size (fun k => w.heap.size ≤ k) v2 acc) ∧ Aside0 (RLeft w0 w rb ok vin e q inb w'))
    case atStart => exact ⟨0, q0, [], rfl, by omega, ⟨by omega⟩, HRES, hq2, ⟨by simp⟩, ⟨Kd.R_nil _ _ _ _ _⟩, HL⟩
    case round =>
      obtain ⟨i, q, acc, rfl, hi, HM, HN, hq, HA, HO, HL⟩ := hrel
      by_cases hlt : i < m
      · have c1 : decide ((i : Int) < (m : Int)) = true := decide_eq_true (by omega)
        have g1 : wr.cell? ⟨bx, 0, none⟩ = some (.pointer (some ⟨rb, 0, none⟩)) := (blk_cell (HV.out.kept HL.out.kept hne.out) 0).trans rfl
        have HS := Lib.hid (show m - i = (m - (i + 1)) + 1 by omega)
        have hsc := Lib.hid (signed_calls w0 wr rb ok vin e q inb HL.out.below HL.out.rd)
        cases hx : intF inb q with
        | error c =>
          have HC2 := Lib.hid (ret_err hx hsc.out)
          have HX := Lib.hid (show res = .error c by rw [← HN.out, HS.out, listF, hx])
          clear hx hsc
          go_wp2_with (first | (go_at_call 47; (refine HC2.out.mono ?_; rintro r w2 ⟨rfl, q2, hL⟩; have HL2 := Aside0.mk hL; clear hL)))
          exact ⟨rfl, RowRet.err_mk (HF.out.trans HX.out) (HL.out.trans HL2.out)⟩
        | ok xq =>
          obtain ⟨x, q2⟩ := xq
          have HC2 := Lib.hid (ret_ok hx hsc.out)
          have HX := Lib.hid (show listF inb (m - (i + 1)) q2 (acc ++ [x]) = res by rw [← HN.out, HS.out, listF, hx])
          obtain ⟨hx0, hx1, hx2⟩ := intF_range HBY.out hx
          clear hx hsc
          go_wp2_with (first | (go_at_call 47; (refine HC2.out.mono ?_; rintro r w2 ⟨rfl, hL⟩; have HO2 := Aside0.mk (Kd.R_kept HO.out hL.kept (fun k hk h => by have := hrb.out; omega)); have HL2 := Aside0.mk (HL.out.trans hL); clear hL)) | ((with_reducible refine gate_builtin (b := .append) (xs := #[.tmp 8, .tmp 11]) rfl ?_); at_builtin; (refine Kd.R_append (Kd.int .i64) (w0 := w0) w0.heap.size rfl (.tmp 8) (.tmp 11) 33 3 (.int .i64 0) 8 rfl Try.underlying33 infoI rfl (by decide) (by omega) u2 acc x [.int .i64 x] (fun k => w.heap.size ≤ k) (fun _ => False) rfl rfl ?aP (fun _ hk => hk.elim) ?aF ?aO ?aB ?aS ?aL ?_; (case aP => exact rfl); (case aB => exact (by repeat (first | (with_reducible first | exact HL2.out.below | apply below_alloc | apply pw_below_drewN | apply below_drew1) | exact HL2.out.below))); (case aF => exact (fun k hk => Nat.le_trans HL2.out.kept.1 hk)); (case aO => first | exact HO2.out | exact (by (with_reducible repeat (first | apply Kd.R_alloc | apply Kd.R_drewN | apply Kd.R_drew)); exact HO2.out)); (case aS => exact (below_size (by repeat (first | (with_reducible first | exact HL2.out.below | apply below_alloc | apply pw_below_drewN | apply below_drew1) | exact HL2.out.below)))); (case aL => exact (by have := HA.out; omega)); intro v1 w1 hO1 hB1 hG1 hA1; have HO1 := Lib.hid hO1; have HB1 := Lib.hid hB1; have HG1 := Lib.hid hG1; clear hO1 hB1 hG1 hA1)))
          go_roundg (m - (i + 1))
          case measure => have := HM.out; omega
          case rel => exact ⟨i + 1, q2, acc ++ [x], by go_num, by omega, ⟨by omega⟩, ⟨HX.out⟩, hx2, ⟨by have := HA.out; rw [List.length_append]; simp; omega⟩, ⟨HO1.out⟩, ⟨HL2.out.rd.kept (Kept.of_grown (S := fun k => w.heap.size ≤ k) HG1.out (Kept.refl _ _) (fun k hk => .inl (HO.out.1 k hk))) (fun h => by have := hrb.out; omega) (fun k hk h => by have := HOK.out k hk; omega), HB1.out, Kept.of_grown HG1.out HL2.out.kept (fun k hk => .inr (HO.out.1 k hk))⟩⟩
      · have c1 : decide ((i : Int) < (m : Int)) = false := decide_eq_false (by omega)
        have HX := Lib.hid (show res = .ok (acc, q) by rw [← HN.out, show m - i = 0 by omega, listF])
        go_wp2
        go_ret
        exact RowRet.ok_mk (HF.out.trans HX.out) HO.out HL.out
end Go.Proofs.Ytpbmfdflmmeghaa.Wire
