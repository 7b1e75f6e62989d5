import Derived.Test.YtpbmfdflmmeghaaWi
namespace Go.Proofs.Ytpbmfdflmmeghaa.Wire
open Go.RowKit Go.Proofs.YtpbmfdflmmeghaaW.PrintWords Go.Proofs.YtpbmfdflmmeghaaW.PrintLast Go.Proofs.YtpbmfdflmmeghaaW.PrintMore
set_option linter.unusedVariables false
set_option linter.unusedSimpArgs false

def countF (limit : Int) (inb : List Int) (p : Nat) : Except Int (Int × Nat) :=
  match numF 63 inb p 0 0 with
  | .ok (n, q) => if limit < 0 then .error 2 else if limit < n then .error 7 else .ok (n, q)
  | .error c => .error c

theorem count_calls (w0 w : World) (rb : Nat) (ok : Nat → Prop) (vin : Value) (e : Int) (p : Nat) (inb : List Int) (limit : Int) (hl0 : -9223372036854775808 ≤ limit) (hl1 : limit ≤ 9223372036854775807) (hB : Below w0.heap.size w0 w) (hR : RdAt w w0.heap.size rb ok vin e p inb) :
    Calls Try.prog 55 #[.pointer (some ⟨rb, 0, none⟩), .int .i64 limit] w (RetPost Int (Value.int .i64) w0 w rb ok vin e inb (countF limit inb p)) := by
  have HB := Lib.hid hB
  have HR := Lib.hid hR
  have hby := hR.byte
  clear hB hR
  cases hn : numF 63 inb p 0 0 with
  | error c =>
    have HF := Lib.hid (show countF limit inb p = .error c by unfold countF; rw [hn])
    have HN := Lib.hid hn
    clear hn hby
    go_enter Try.func55, Try.ntmps55
    go_wp2_with (first | (go_at_call 49; (refine (number_err w0 _ rb ok vin e p inb 63 (.inl rfl) HB.out HR.out HN.out).mono ?_; rintro r w1 ⟨rfl, q, hL⟩; have HL := Aside0.mk hL; clear hL)))
    exact ⟨rfl, RetPost.err_mk HF.out HL.out⟩
  | ok nq =>
    obtain ⟨n, q⟩ := nq
    obtain ⟨h0, h1, _, _⟩ := numF_range (B := 63) (by omega) hby _ p 0 0 (Nat.le_refl _) (by omega) (by omega) (by decide) n q hn
    have h1 : n < 9223372036854775808 := h1
    have HN := Lib.hid hn
    clear hby
    by_cases c1 : limit < 0
    · have HF := Lib.hid (show countF limit inb p = .error 2 by unfold countF; rw [hn]; simp only [if_pos c1])
      have d1 : decide (limit < 0) = true := decide_eq_true c1
      clear hn c1
      go_enter Try.func55, Try.ntmps55
      go_wp2_with (first | (go_at_call 49; (refine (number_ok w0 _ rb ok vin e p inb 63 (.inl rfl) HB.out HR.out HN.out).mono ?_; rintro r w1 ⟨rfl, hL⟩; have HL := Aside0.mk hL; clear hL)))
      exact ⟨rfl, RetPost.err_mk HF.out HL.out⟩
    · have d1 : decide (limit < 0) = false := decide_eq_false c1
      by_cases c2 : limit < n
      · have HF := Lib.hid (show countF limit inb p = .error 7 by unfold countF; rw [hn]; simp only [if_neg c1, if_pos c2])
        have d2 : decide (limit < n) = true := decide_eq_true c2
        clear hn c1 c2
        go_enter Try.func55, Try.ntmps55
        go_wp2_with (first | (go_at_call 49; (refine (number_ok w0 _ rb ok vin e p inb 63 (.inl rfl) HB.out HR.out HN.out).mono ?_; rintro r w1 ⟨rfl, hL⟩; have HL := Aside0.mk hL; clear hL)))
        exact ⟨rfl, RetPost.err_mk HF.out HL.out⟩
      · have HF := Lib.hid (show countF limit inb p = .ok (n, q) by unfold countF; rw [hn]; simp only [if_neg c1, if_neg c2])
        have d2 : decide (limit < n) = false := decide_eq_false c2
        clear hn c1 c2
        go_enter Try.func55, Try.ntmps55
        go_wp2_with (first | (go_at_call 49; (refine (number_ok w0 _ rb ok vin e p inb 63 (.inl rfl) HB.out HR.out HN.out).mono ?_; rintro r w1 ⟨rfl, hL⟩; have HL := Aside0.mk hL; clear hL)))
        go_ret
        exact RetPost.ok_mk HF.out HL.out

/-- A variable that holds the reader's address. -/
def VarAt (w : World) (bx rb : Nat) : Prop := w.heap[bx]? = some (.cells #[.pointer (some ⟨rb, 0, none⟩)] 48 (0, 0))

def uintF (inb : List Int) (p : Nat) : Except Int (Int × Nat) := numF 63 inb p 0 0

theorem uint1_calls (w0 w : World) (bx rb : Nat) (ok : Nat → Prop) (vin : Value) (e : Int) (p : Nat) (inb : List Int) (hV : VarAt w bx rb) (hB : Below w0.heap.size w0 w) (hR : RdAt w w0.heap.size rb ok vin e p inb) :
    Calls Try.prog 48 #[.pointer (some ⟨bx, 0, none⟩)] w (RetPost Int (Value.int .i64) w0 w rb ok vin e inb (uintF inb p)) := by
  have hbx : w.cell? ⟨bx, 0, none⟩ = some (.pointer (some ⟨rb, 0, none⟩)) := (blk_cell hV 0).trans rfl
  have HB := Lib.hid hB
  have HR := Lib.hid hR
  have hby := hR.byte
  clear hB hR hV
  cases hn : numF 63 inb p 0 0 with
  | error c =>
    have HF := Lib.hid (show uintF inb p = .error c from hn)
    have HN := Lib.hid hn
    clear hn hby
    go_enter Try.func48, Try.ntmps48
    go_wp2_with (first | (go_at_call 49; (refine (number_err w0 _ rb ok vin e p inb 63 (.inl rfl) HB.out HR.out HN.out).mono ?_; rintro r w1 ⟨rfl, q, hL⟩; have HL := Aside0.mk hL; clear hL)))
    exact ⟨rfl, RetPost.err_mk HF.out HL.out⟩
  | ok nq =>
    obtain ⟨n, q⟩ := nq
    obtain ⟨h0, h1, _, _⟩ := numF_range (B := 63) (by omega) hby _ p 0 0 (Nat.le_refl _) (by omega) (by omega) (by decide) n q hn
    have h1 : n < 9223372036854775808 := h1
    have HF := Lib.hid (show uintF inb p = .ok (n, q) from hn)
    have HN := Lib.hid hn
    clear hn hby
    go_enter Try.func48, Try.ntmps48
    go_wp2_with (first | (go_at_call 49; (refine (number_ok w0 _ rb ok vin e p inb 63 (.inl rfl) HB.out HR.out HN.out).mono ?_; rintro r w1 ⟨rfl, hL⟩; have HL := Aside0.mk hL; clear hL)))
    go_ret
    exact RetPost.ok_mk HF.out HL.out

/-- A step's two ways, as contracts. -/
theorem ret_ok {α : Type} {enc : α → Value} {f : FuncId} {args : Array Value} {w0 w : World} {rb : Nat} {ok : Nat → Prop} {vin : Value} {e : Int} {inb : List Int} {x : Except Int (α × Nat)} {a : α} {q : Nat} (hx : x = .ok (a, q)) (h : Calls Try.prog f args w (RetPost α enc w0 w rb ok vin e inb x)) :
    Calls Try.prog f args w (fun r w' => r = .returned (enc a) ∧ RLeft w0 w rb ok vin e q inb w') := by subst hx; exact h
theorem ret_err {α : Type} {enc : α → Value} {f : FuncId} {args : Array Value} {w0 w : World} {rb : Nat} {ok : Nat → Prop} {vin : Value} {e : Int} {inb : List Int} {x : Except Int (α × Nat)} {c : Int} (hx : x = .error c) (h : Calls Try.prog f args w (RetPost α enc w0 w rb ok vin e inb x)) :
    Calls Try.prog f args w (fun r w' => r = errPanic c ∧ ∃ q, RLeft w0 w rb ok vin e q inb w') := by subst hx; exact h

theorem int1_calls (w0 w : World) (bx rb : Nat) (ok : Nat → Prop) (vin : Value) (e : Int) (p : Nat) (inb : List Int) (hV : VarAt w bx rb) (hB : Below w0.heap.size w0 w) (hR : RdAt w w0.heap.size rb ok vin e p inb) :
    Calls Try.prog 46 #[.pointer (some ⟨bx, 0, none⟩)] w (RetPost Int (Value.int .i64) w0 w rb ok vin e inb (intF inb p)) := by
  have hbx : w.cell? ⟨bx, 0, none⟩ = some (.pointer (some ⟨rb, 0, none⟩)) := (blk_cell hV 0).trans rfl
  have hc := Lib.hid (signed_calls w0 w rb ok vin e p inb hB hR)
  clear hB hR hV
  cases hn : intF inb p with
  | error c =>
    have HN := Lib.hid hn
    have HC := Lib.hid (ret_err hn hc.out)
    rw [hn] at hc
    clear hn
    go_enter Try.func46, Try.ntmps46
    go_wp2_with (first | (go_at_call 47; (refine HC.out.mono ?_; rintro r w1 ⟨rfl, q, hL⟩; have HL := Aside0.mk hL; clear hL)))
    exact ⟨rfl, RetPost.err_mk rfl HL.out⟩
  | ok nq =>
    obtain ⟨n, q⟩ := nq
    have HC := Lib.hid (ret_ok hn hc.out)
    clear hn hc
    go_enter Try.func46, Try.ntmps46
    go_wp2_with (first | (go_at_call 47; (refine HC.out.mono ?_; rintro r w1 ⟨rfl, hL⟩; have HL := Aside0.mk hL; clear hL)))
    go_ret
    exact RetPost.ok_mk rfl HL.out

/-- A variable that holds a limit. -/
def LimAt (w : World) (bl : Nat) (limit : Int) : Prop := w.heap[bl]? = some (.cells #[.int .i64 limit] 3 (0, 0))

theorem count1_calls (w0 w : World) (bx bl rb : Nat) (ok : Nat → Prop) (vin : Value) (e : Int) (p : Nat) (inb : List Int) (limit : Int) (hl0 : -9223372036854775808 ≤ limit) (hl1 : limit ≤ 9223372036854775807) (hV : VarAt w bx rb) (hM : LimAt w bl limit) (hB : Below w0.heap.size w0 w) (hR : RdAt w w0.heap.size rb ok vin e p inb) :
    Calls Try.prog 59 #[.pointer (some ⟨bx, 0, none⟩), .pointer (some ⟨bl, 0, none⟩)] w (RetPost Int (Value.int .i64) w0 w rb ok vin e inb (countF limit inb p)) := by
  have hbx : w.cell? ⟨bx, 0, none⟩ = some (.pointer (some ⟨rb, 0, none⟩)) := (blk_cell hV 0).trans rfl
  have hbl : w.cell? ⟨bl, 0, none⟩ = some (.int .i64 limit) := (blk_cell hM 0).trans rfl
  have hc := Lib.hid (count_calls w0 w rb ok vin e p inb limit hl0 hl1 hB hR)
  clear hB hR hV hM
  cases hn : countF limit inb p with
  | error c =>
    have HC := Lib.hid (ret_err hn hc.out)
    clear hn hc
    go_enter Try.func59, Try.ntmps59
    go_wp2_with (first | (go_at_call 55; (refine HC.out.mono ?_; rintro r w1 ⟨rfl, q, hL⟩; have HL := Aside0.mk hL; clear hL)))
    exact ⟨rfl, RetPost.err_mk rfl HL.out⟩
  | ok nq =>
    obtain ⟨n, q⟩ := nq
    have HC := Lib.hid (ret_ok hn hc.out)
    clear hn hc
    go_enter Try.func59, Try.ntmps59
    go_wp2_with (first | (go_at_call 55; (refine HC.out.mono ?_; rintro r w1 ⟨rfl, hL⟩; have HL := Aside0.mk hL; clear hL)))
    go_ret
    exact RetPost.ok_mk rfl HL.out

def boolF (inb : List Int) (p : Nat) : Except Int (Bool × Nat) :=
  if p < inb.length then (if 1 < inb.getD p 0 then .error 6 else .ok (inb.getD p 0 == 1, p + 1)) else .error 4

theorem bool1_calls (w0 w : World) (bx rb : Nat) (ok : Nat → Prop) (vin : Value) (e : Int) (p : Nat) (inb : List Int) (hV : VarAt w bx rb) (hB : Below w0.heap.size w0 w) (hR : RdAt w w0.heap.size rb ok vin e p inb) :
    Calls Try.prog 51 #[.pointer (some ⟨bx, 0, none⟩)] w (RetPost Bool Value.bool w0 w rb ok vin e inb (boolF inb p)) := by
  have hbx : w.cell? ⟨bx, 0, none⟩ = some (.pointer (some ⟨rb, 0, none⟩)) := (blk_cell hV 0).trans rfl
  have hle := hR.le
  by_cases h : p < inb.length
  · have HC := Lib.hid (next_at w0 w rb ok vin e p inb h hB hR)
    generalize hx : inb.getD p 0 = x at HC
    by_cases c1 : 1 < x
    · have HF := Lib.hid (show boolF inb p = .error 6 by unfold boolF; rw [if_pos h, hx, if_pos c1])
      have d1 : decide (1 < x) = true := decide_eq_true c1
      clear hx h c1 hB hR hV
      go_enter Try.func51, Try.ntmps51
      go_wp2_with (first | (go_at_call 52; (refine HC.out.mono ?_; rintro r w1 ⟨rfl, hL⟩; have HL := Aside0.mk hL; clear hL)))
      exact ⟨rfl, RetPost.err_mk HF.out HL.out⟩
    · have HF := Lib.hid (show boolF inb p = .ok (x == 1, p + 1) by unfold boolF; rw [if_pos h, hx, if_neg c1])
      have d1 : decide (1 < x) = false := decide_eq_false c1
      clear hx h c1 hB hR hV
      go_enter Try.func51, Try.ntmps51
      go_wp2_with (first | (go_at_call 52; (refine HC.out.mono ?_; rintro r w1 ⟨rfl, hL⟩; have HL := Aside0.mk hL; clear hL)))
      go_ret
      exact RetPost.ok_mk HF.out HL.out
  · have HC := Lib.hid (next_end w0 w rb ok vin e p inb (by omega) hB hR)
    have HF := Lib.hid (show boolF inb p = .error 4 by unfold boolF; rw [if_neg h])
    clear h hB hR hV
    go_enter Try.func51, Try.ntmps51
    go_wp2_with (first | (go_at_call 52; (refine HC.out.mono ?_; rintro r w1 ⟨rfl, hL⟩; have HL := Aside0.mk hL; clear hL)))
    exact ⟨rfl, RetPost.err_mk HF.out HL.out⟩
end Go.Proofs.Ytpbmfdflmmeghaa.Wire
