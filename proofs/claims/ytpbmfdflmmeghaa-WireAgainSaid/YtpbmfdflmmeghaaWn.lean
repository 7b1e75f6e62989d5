import Derived.Test.YtpbmfdflmmeghaaWm
namespace Go.Proofs.Ytpbmfdflmmeghaa.Wire
open Go.RowKit Go.Proofs.YtpbmfdflmmeghaaW.PrintWords Go.Proofs.YtpbmfdflmmeghaaW.PrintLast Go.Proofs.YtpbmfdflmmeghaaW.PrintMore
set_option linter.unusedVariables false
set_option linter.unusedSimpArgs false

theorem enters {f : FuncId} {fn : Func} {c : Code} (hf : Try.prog.funcs[f]? = some fn) (hname : (fn.name == "runtime.NumGoroutine") = false) (hb : fn.body = some c) (args : Array Value) (w : World) : (callFunc f args).run Try.prog w = .ok (.enter f args) w := by
  have h2 : fn.name ≠ "runtime.NumGoroutine" := by simpa using hname
  simp [callFunc, hf, hb, go_sem, h2]

theorem VarAt.new (w : World) (rb : Nat) : VarAt (w.alloc (.cells #[.pointer (some ⟨rb, 0, none⟩)] 48)) w.heap.size rb := blk_new _ _
theorem ValPost.after {α : Type} {enc : α → Value} {zero : α} {w0 w w1 w2 : World} {rb : Nat} {ok : Nat → Prop} {vin : Value} {e : Int} {p : Nat} {inb : List Int} {x : Except Int (α × Nat)} {r : Ending} (hk : Kept w w1 (fun _ => False)) (h : ValPost α enc zero w0 w1 rb ok vin e p inb x r w2) : ValPost α enc zero w0 w rb ok vin e p inb x r w2 := by
  unfold ValPost at *
  split at h
  · rename_i he
    rw [if_pos he]
    cases x with
    | error c => exact ⟨h.1, RLeft_left hk h.2⟩
    | ok aq => exact ⟨h.1, RLeft_left hk h.2⟩
  · rename_i he
    rw [if_neg he]; exact ⟨h.1, RLeft_left hk h.2⟩
/-- The value that is handed back, the error and the offset behind it. -/
def valR {α : Type} (zero : α) (e : Int) (x : Except Int (α × Nat)) : α := if e = 0 then (match x with | .ok (a, _) => a | .error _ => zero) else zero
def valE {α : Type} (e : Int) (x : Except Int (α × Nat)) : Int := if e = 0 then (match x with | .ok _ => 0 | .error c => c) else e
def valP {α : Type} (e : Int) (p : Nat) (x : Except Int (α × Nat)) : Nat := if e = 0 then (match x with | .ok (_, q) => q | .error _ => p) else p
theorem ValPost.out {α : Type} {enc : α → Value} {zero : α} {w0 w w1 : World} {rb : Nat} {ok : Nat → Prop} {vin : Value} {e : Int} {p : Nat} {inb : List Int} {x : Except Int (α × Nat)} {r : Ending} (h : ValPost α enc zero w0 w rb ok vin e p inb x r w1) :
    r = .returned (enc (valR zero e x)) ∧ RLeft w0 w rb ok vin (valE e x) (valP e p x) inb w1 := by
  unfold ValPost at h
  unfold valR valE valP
  by_cases he : e = 0
  · simp only [if_pos he] at *
    cases x with
    | error c => exact h
    | ok aq => exact h
  · simp only [if_neg he] at *; exact h
theorem RowValPost.out {k : IntKind} {t : TypeId} {w0 w w1 : World} {rb : Nat} {ok : Nat → Prop} {vin : Value} {e : Int} {p : Nat} {inb : List Int} {x : Except Int (List Int × Nat)} {r : Ending} (h : RowValPost k t w0 w rb ok vin e p inb x r w1) :
    (∃ v', r = .returned v' ∧ (Kd.int k).R t w1 w0.heap.size (fun k => w.heap.size ≤ k) v' (valR [] e x)) ∧ RLeft w0 w rb ok vin (valE e x) (valP e p x) inb w1 := by
  unfold RowValPost at h
  unfold valR valE valP
  by_cases he : e = 0
  · simp only [if_pos he] at *
    cases x with
    | error c => exact ⟨⟨_, h.1, Kd.R_nil _ _ _ _ _⟩, h.2⟩
    | ok aq => exact h
  · simp only [if_neg he] at *; exact ⟨⟨_, h.1, Kd.R_nil _ _ _ _ _⟩, h.2⟩

theorem rdUint_calls (w0 w : World) (rb : Nat) (ok : Nat → Prop) (vin : Value) (e : Int) (p : Nat) (inb : List Int) (hB : Below w0.heap.size w0 w) (hR : RdAt w w0.heap.size rb ok vin e p inb) :
    Calls Try.prog 24 #[.pointer (some ⟨rb, 0, none⟩)] w (fun r w' => r = .returned (.int .i64 (valR (0 : Int) e (uintF inb p))) ∧ RLeft w0 w rb ok vin (valE e (uintF inb p)) (valP e p (uintF inb p)) inb w') := by
  have hmf : ∀ (fn : Fn) (first cap : Array Value) (w : World), (Instr.makeFunc fn first cap).run Try.prog w = .ok (.func fn first cap) w := fun _ _ _ _ => rfl
  have hA := (Kept.refl w (fun _ => False)).alloc (.cells #[.pointer (some ⟨rb, 0, none⟩)] 48)
  have hrb := blk_lt hR.blk
  have HC := Lib.hid (valueInt w0 (w.alloc (.cells #[.pointer (some ⟨rb, 0, none⟩)] 48)) rb ok vin e p inb 48 #[.pointer (some ⟨w.heap.size, 0, none⟩)] (uintF inb p) (below_alloc' hB _) (hR.kept hA id (fun _ _ => id)) (enters Try.func48 (by kernel_rfl) rfl _) (fun w1 hB1 hR1 hK1 => uint1_calls w0 w1 w.heap.size rb ok vin 0 p inb ((VarAt.new w rb).kept hK1 id) hB1 hR1))
  have HA := Lib.hid hA
  clear hB hR hA
  go_enter Try.func24, Try.ntmps24
  go_wp2_with (first | (go_at_call 45; (refine HC.out.mono ?_; rintro r w1 hP; obtain ⟨hr, hL⟩ := (ValPost.after HA.out hP).out; subst hr; have HL := Aside0.mk hL; clear hP hL)))
  go_ret
  exact ⟨rfl, HL.out⟩

theorem rdInt_calls (w0 w : World) (rb : Nat) (ok : Nat → Prop) (vin : Value) (e : Int) (p : Nat) (inb : List Int) (hB : Below w0.heap.size w0 w) (hR : RdAt w w0.heap.size rb ok vin e p inb) :
    Calls Try.prog 22 #[.pointer (some ⟨rb, 0, none⟩)] w (fun r w' => r = .returned (.int .i64 (valR (0 : Int) e (intF inb p))) ∧ RLeft w0 w rb ok vin (valE e (intF inb p)) (valP e p (intF inb p)) inb w') := by
  have hmf : ∀ (fn : Fn) (first cap : Array Value) (w : World), (Instr.makeFunc fn first cap).run Try.prog w = .ok (.func fn first cap) w := fun _ _ _ _ => rfl
  have hA := (Kept.refl w (fun _ => False)).alloc (.cells #[.pointer (some ⟨rb, 0, none⟩)] 48)
  have hrb := blk_lt hR.blk
  have HC := Lib.hid (valueInt w0 (w.alloc (.cells #[.pointer (some ⟨rb, 0, none⟩)] 48)) rb ok vin e p inb 46 #[.pointer (some ⟨w.heap.size, 0, none⟩)] (intF inb p) (below_alloc' hB _) (hR.kept hA id (fun _ _ => id)) (enters Try.func46 (by kernel_rfl) rfl _) (fun w1 hB1 hR1 hK1 => int1_calls w0 w1 w.heap.size rb ok vin 0 p inb ((VarAt.new w rb).kept hK1 id) hB1 hR1))
  have HA := Lib.hid hA
  clear hB hR hA
  go_enter Try.func22, Try.ntmps22
  go_wp2_with (first | (go_at_call 45; (refine HC.out.mono ?_; rintro r w1 hP; obtain ⟨hr, hL⟩ := (ValPost.after HA.out hP).out; subst hr; have HL := Aside0.mk hL; clear hP hL)))
  go_ret
  exact ⟨rfl, HL.out⟩

theorem rdBool_calls (w0 w : World) (rb : Nat) (ok : Nat → Prop) (vin : Value) (e : Int) (p : Nat) (inb : List Int) (hB : Below w0.heap.size w0 w) (hR : RdAt w w0.heap.size rb ok vin e p inb) :
    Calls Try.prog 27 #[.pointer (some ⟨rb, 0, none⟩)] w (fun r w' => r = .returned (.bool (valR false e (boolF inb p))) ∧ RLeft w0 w rb ok vin (valE e (boolF inb p)) (valP e p (boolF inb p)) inb w') := by
  have hmf : ∀ (fn : Fn) (first cap : Array Value) (w : World), (Instr.makeFunc fn first cap).run Try.prog w = .ok (.func fn first cap) w := fun _ _ _ _ => rfl
  have hA := (Kept.refl w (fun _ => False)).alloc (.cells #[.pointer (some ⟨rb, 0, none⟩)] 48)
  have hrb := blk_lt hR.blk
  have HC := Lib.hid (valueBool w0 (w.alloc (.cells #[.pointer (some ⟨rb, 0, none⟩)] 48)) rb ok vin e p inb 51 #[.pointer (some ⟨w.heap.size, 0, none⟩)] (boolF inb p) (below_alloc' hB _) (hR.kept hA id (fun _ _ => id)) (enters Try.func51 (by kernel_rfl) rfl _) (fun w1 hB1 hR1 hK1 => bool1_calls w0 w1 w.heap.size rb ok vin 0 p inb ((VarAt.new w rb).kept hK1 id) hB1 hR1))
  have HA := Lib.hid hA
  clear hB hR hA
  go_enter Try.func27, Try.ntmps27
  go_wp2_with (first | (go_at_call 50; (refine HC.out.mono ?_; rintro r w1 hP; obtain ⟨hr, hL⟩ := (ValPost.after HA.out hP).out; subst hr; have HL := Aside0.mk hL; clear hP hL)))
  go_ret
  exact ⟨rfl, HL.out⟩

theorem rdCount_calls (w0 w : World) (rb : Nat) (ok : Nat → Prop) (vin : Value) (e : Int) (p : Nat) (inb : List Int) (limit : Int) (hl0 : -9223372036854775808 ≤ limit) (hl1 : limit ≤ 9223372036854775807) (hB : Below w0.heap.size w0 w) (hR : RdAt w w0.heap.size rb ok vin e p inb) :
    Calls Try.prog 34 #[.pointer (some ⟨rb, 0, none⟩), .int .i64 limit] w (fun r w' => r = .returned (.int .i64 (valR (0 : Int) e (countF limit inb p))) ∧ RLeft w0 w rb ok vin (valE e (countF limit inb p)) (valP e p (countF limit inb p)) inb w') := by
  have hmf : ∀ (fn : Fn) (first cap : Array Value) (w : World), (Instr.makeFunc fn first cap).run Try.prog w = .ok (.func fn first cap) w := fun _ _ _ _ => rfl
  have hA := ((Kept.refl w (fun _ => False)).alloc (.cells #[.pointer (some ⟨rb, 0, none⟩)] 48)).alloc (.cells #[.int .i64 limit] 3)
  have hrb := blk_lt hR.blk
  have hV : VarAt ((w.alloc (.cells #[.pointer (some ⟨rb, 0, none⟩)] 48)).alloc (.cells #[.int .i64 limit] 3)) w.heap.size rb := blk_alloc (VarAt.new w rb) _
  have hM : LimAt ((w.alloc (.cells #[.pointer (some ⟨rb, 0, none⟩)] 48)).alloc (.cells #[.int .i64 limit] 3)) (w.heap.size + 1) limit := by have := blk_new (w.alloc (.cells #[.pointer (some ⟨rb, 0, none⟩)] 48)) (.cells #[.int .i64 limit] 3); simpa [LimAt] using this
  have HC := Lib.hid (valueInt w0 ((w.alloc (.cells #[.pointer (some ⟨rb, 0, none⟩)] 48)).alloc (.cells #[.int .i64 limit] 3)) rb ok vin e p inb 59 #[.pointer (some ⟨w.heap.size, 0, none⟩), .pointer (some ⟨w.heap.size + 1, 0, none⟩)] (countF limit inb p) (below_alloc' (below_alloc' hB _) _) (hR.kept hA id (fun _ _ => id)) (enters Try.func59 (by kernel_rfl) rfl _) (fun w1 hB1 hR1 hK1 => count1_calls w0 w1 w.heap.size (w.heap.size + 1) rb ok vin 0 p inb limit hl0 hl1 (hV.kept hK1 id) (hM.kept hK1 id) hB1 hR1))
  have HA := Lib.hid hA
  clear hB hR hA hV hM
  go_enter Try.func34, Try.ntmps34
  go_wp2_with (first | (go_at_call 45; (refine HC.out.mono ?_; rintro r w1 hP; obtain ⟨hr, hL⟩ := (ValPost.after HA.out hP).out; subst hr; have HL := Aside0.mk hL; clear hP hL)))
  go_ret
  exact ⟨rfl, HL.out⟩

theorem rdBytes_calls (w0 w : World) (rb : Nat) (ok : Nat → Prop) (vin : Value) (e : Int) (p : Nat) (inb : List Int) (limit : Int) (hl0 : -9223372036854775808 ≤ limit) (hl1 : limit ≤ 9223372036854775807) (hB : Below w0.heap.size w0 w) (hR : RdAt w w0.heap.size rb ok vin e p inb) :
    Calls Try.prog 28 #[.pointer (some ⟨rb, 0, none⟩), .int .i64 limit] w (fun r w' => (∃ v', r = .returned v' ∧ (Kd.int .u8).R 5 w' w0.heap.size (fun k => w.heap.size ≤ k) v' (valR [] e (bytesF limit inb p))) ∧ RLeft w0 w rb ok vin (valE e (bytesF limit inb p)) (valP e p (bytesF limit inb p)) inb w') := by
  have hmf : ∀ (fn : Fn) (first cap : Array Value) (w : World), (Instr.makeFunc fn first cap).run Try.prog w = .ok (.func fn first cap) w := fun _ _ _ _ => rfl
  have hA := ((Kept.refl w (fun _ => False)).alloc (.cells #[.pointer (some ⟨rb, 0, none⟩)] 48)).alloc (.cells #[.int .i64 limit] 3)
  have hrb := blk_lt hR.blk
  have hV : VarAt ((w.alloc (.cells #[.pointer (some ⟨rb, 0, none⟩)] 48)).alloc (.cells #[.int .i64 limit] 3)) w.heap.size rb := blk_alloc (VarAt.new w rb) _
  have hM : LimAt ((w.alloc (.cells #[.pointer (some ⟨rb, 0, none⟩)] 48)).alloc (.cells #[.int .i64 limit] 3)) (w.heap.size + 1) limit := by have := blk_new (w.alloc (.cells #[.pointer (some ⟨rb, 0, none⟩)] 48)) (.cells #[.int .i64 limit] 3); simpa [LimAt] using this
  have HC := Lib.hid (valueBytes w0 ((w.alloc (.cells #[.pointer (some ⟨rb, 0, none⟩)] 48)).alloc (.cells #[.int .i64 limit] 3)) rb ok vin e p inb 54 #[.pointer (some ⟨w.heap.size, 0, none⟩), .pointer (some ⟨w.heap.size + 1, 0, none⟩)] (bytesF limit inb p) (below_alloc' (below_alloc' hB _) _) (hR.kept hA id (fun _ _ => id)) (enters Try.func54 (by kernel_rfl) rfl _) (fun w1 hB1 hR1 hK1 => bytes1_calls w0 w1 w.heap.size (w.heap.size + 1) rb ok vin 0 p inb limit hl0 hl1 (hV.kept hK1 id) (hM.kept hK1 id) hB1 hR1))
  have HA := Lib.hid hA
  clear hB hR hA hV hM
  go_enter Try.func28, Try.ntmps28
  go_wp2_with (first | (go_at_call 53; (refine HC.out.mono ?_; rintro r w1 hP; obtain ⟨⟨v1, hr, hO⟩, hL⟩ := hP.out; replace hL := RLeft_left HA.out hL; subst hr; have HO := Aside0.mk (Kd.R_mono (ok' := fun k => w.heap.size ≤ k) hO (fun k hk => Nat.le_trans HA.out.1 hk)); clear hO; have HL := Aside0.mk hL; clear hP hL)))
  go_ret
  exact ⟨⟨_, rfl, HO.out⟩, HL.out⟩

theorem rdInts_calls (w0 w : World) (rb : Nat) (ok : Nat → Prop) (vin : Value) (e : Int) (p : Nat) (inb : List Int) (limit : Int) (hl0 : -9223372036854775808 ≤ limit) (hl1 : limit ≤ 9223372036854775807) (hB : Below w0.heap.size w0 w) (hR : RdAt w w0.heap.size rb ok vin e p inb) (hok : ∀ k, ok k → k < w.heap.size) :
    Calls Try.prog 31 #[.pointer (some ⟨rb, 0, none⟩), .int .i64 limit] w (fun r w' => (∃ v', r = .returned v' ∧ (Kd.int .i64).R 3 w' w0.heap.size (fun k => w.heap.size ≤ k) v' (valR [] e (intsF limit inb p))) ∧ RLeft w0 w rb ok vin (valE e (intsF limit inb p)) (valP e p (intsF limit inb p)) inb w') := by
  have hmf : ∀ (fn : Fn) (first cap : Array Value) (w : World), (Instr.makeFunc fn first cap).run Try.prog w = .ok (.func fn first cap) w := fun _ _ _ _ => rfl
  have hA := ((Kept.refl w (fun _ => False)).alloc (.cells #[.pointer (some ⟨rb, 0, none⟩)] 48)).alloc (.cells #[.int .i64 limit] 3)
  have hrb := blk_lt hR.blk
  have hV : VarAt ((w.alloc (.cells #[.pointer (some ⟨rb, 0, none⟩)] 48)).alloc (.cells #[.int .i64 limit] 3)) w.heap.size rb := blk_alloc (VarAt.new w rb) _
  have hM : LimAt ((w.alloc (.cells #[.pointer (some ⟨rb, 0, none⟩)] 48)).alloc (.cells #[.int .i64 limit] 3)) (w.heap.size + 1) limit := by have := blk_new (w.alloc (.cells #[.pointer (some ⟨rb, 0, none⟩)] 48)) (.cells #[.int .i64 limit] 3); simpa [LimAt] using this
  have HC := Lib.hid (valueInts w0 ((w.alloc (.cells #[.pointer (some ⟨rb, 0, none⟩)] 48)).alloc (.cells #[.int .i64 limit] 3)) rb ok vin e p inb 57 #[.pointer (some ⟨w.heap.size, 0, none⟩), .pointer (some ⟨w.heap.size + 1, 0, none⟩)] (intsF limit inb p) (below_alloc' (below_alloc' hB _) _) (hR.kept hA id (fun _ _ => id)) (enters Try.func57 (by kernel_rfl) rfl _) (fun w1 hB1 hR1 hK1 => ints1_calls w0 w1 w.heap.size (w.heap.size + 1) rb ok vin 0 p inb limit hl0 hl1 (hV.kept hK1 id) (hM.kept hK1 id) hB1 hR1 (fun k hk => Nat.lt_of_lt_of_le (hok k hk) (Nat.le_trans hA.1 hK1.1))))
  have HA := Lib.hid hA
  clear hB hR hA hV hM
  go_enter Try.func31, Try.ntmps31
  go_wp2_with (first | (go_at_call 56; (refine HC.out.mono ?_; rintro r w1 hP; obtain ⟨⟨v1, hr, hO⟩, hL⟩ := hP.out; replace hL := RLeft_left HA.out hL; subst hr; have HO := Aside0.mk (Kd.R_mono (ok' := fun k => w.heap.size ≤ k) hO (fun k hk => Nat.le_trans HA.out.1 hk)); clear hO; have HL := Aside0.mk hL; clear hP hL)))
  go_ret
  exact ⟨⟨_, rfl, HO.out⟩, HL.out⟩
end Go.Proofs.Ytpbmfdflmmeghaa.Wire
