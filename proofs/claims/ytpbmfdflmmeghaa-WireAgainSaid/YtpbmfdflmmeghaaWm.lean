import Derived.Test.YtpbmfdflmmeghaaWl
import Derived.Defers
import Derived.Recover
import Derived.Laws.Pointers
namespace Go.Proofs.Ytpbmfdflmmeghaa.Wire
open Go.RowKit Go.Proofs.YtpbmfdflmmeghaaW.PrintWords Go.Proofs.YtpbmfdflmmeghaaW.PrintLast Go.Proofs.YtpbmfdflmmeghaaW.PrintMore
set_option linter.unusedVariables false
set_option linter.unusedSimpArgs false

def StartAt (w : World) (bs : Nat) (p : Nat) : Prop := w.heap[bs]? = some (.cells #[.int .i64 (p : Int)] 3 (0, 0))
theorem StartAt.kept {w w' : World} {bs : Nat} {p : Nat} {S : Nat → Prop} (h : StartAt w bs p) (hk : Kept w w' S) (hne : ¬ S bs) : StartAt w' bs p := blk_kept h hk hne
theorem fail0_calls (b : Nat) (cs : Array Value) (t : TypeId) (o : Nat) (c : Int) (w : World) (hb : w.heap[b]? = some (.cells cs t (0, 0))) (hc : cs[o]? = some (.int .i64 0)) :
    Calls Try.prog 43 #[.pointer (some ⟨b, o, none⟩), .int .i64 c] w fun r w' => r = .returned (.tuple #[]) ∧ w.setCell ⟨b, o, none⟩ (.int .i64 c) = w' :=
  (fail_calls b cs t o 0 c w hb hc).mono fun r w' h => ⟨h.1, by have := h.2; rw [if_pos rfl] at this; exact this.symm⟩

theorem none_calls (w : World) (base rb : Nat) (ok : Nat → Prop) (vin : Value) (e : Int) (p : Nat) (inb : List Int) (hR : RdAt w base rb ok vin e p inb) :
    Calls Try.prog 58 #[.pointer (some ⟨rb, 0, none⟩)] w (fun r w' => r = .returned (.bool false) ∧ w = w') := by
  have hcell3 : w.cell? ⟨rb, 3, none⟩ = some (.bool true) := (blk_cell hR.blk 3).trans rfl
  clear hR
  go_enter Try.func58, Try.ntmps58
  go_wp2
  go_ret
  exact ⟨rfl, rfl⟩

theorem RLeft_left {w0 w w1 w2 : World} {rb : Nat} {ok : Nat → Prop} {vin : Value} {e : Int} {p : Nat} {inb : List Int} (hk : Kept w w1 (fun _ => False)) (h : RLeft w0 w1 rb ok vin e p inb w2) : RLeft w0 w rb ok vin e p inb w2 :=
  ⟨h.rd, h.below, (hk.mono (fun _ h => h.elim)).then_ h.kept (fun _ h => .inl h)⟩
def ValPost (α : Type) (enc : α → Value) (zero : α) (w0 w : World) (rb : Nat) (ok : Nat → Prop) (vin : Value) (e : Int) (p : Nat) (inb : List Int) (x : Except Int (α × Nat)) (r : Ending) (w' : World) : Prop :=
  if e = 0 then
    match x with
    | .ok (a, q) => r = .returned (enc a) ∧ RLeft w0 w rb ok vin 0 q inb w'
    | .error c => r = .returned (enc zero) ∧ RLeft w0 w rb ok vin c p inb w'
  else r = .returned (enc zero) ∧ RLeft w0 w rb ok vin e p inb w'
theorem ValPost.mk_ok {α : Type} {enc : α → Value} {zero : α} {w0 w w1 : World} {rb : Nat} {ok : Nat → Prop} {vin : Value} {p : Nat} {inb : List Int} {x : Except Int (α × Nat)} {a : α} {q : Nat} (hx : x = .ok (a, q)) (h : RLeft w0 w rb ok vin 0 q inb w1) : ValPost α enc zero w0 w rb ok vin 0 p inb x (.returned (enc a)) w1 := by subst hx; exact ⟨rfl, h⟩
theorem ValPost.mk_err {α : Type} {enc : α → Value} {zero : α} {w0 w w1 : World} {rb : Nat} {ok : Nat → Prop} {vin : Value} {p : Nat} {inb : List Int} {x : Except Int (α × Nat)} {c : Int} (hx : x = .error c) (h : RLeft w0 w rb ok vin c p inb w1) : ValPost α enc zero w0 w rb ok vin 0 p inb x (.returned (enc zero)) w1 := by subst hx; exact ⟨rfl, h⟩
theorem ValPost.mk_none {α : Type} {enc : α → Value} {zero : α} {w0 w w1 : World} {rb : Nat} {ok : Nat → Prop} {vin : Value} {e : Int} {p : Nat} {inb : List Int} {x : Except Int (α × Nat)} (he : e ≠ 0) (h : RLeft w0 w rb ok vin e p inb w1) : ValPost α enc zero w0 w rb ok vin e p inb x (.returned (enc zero)) w1 := by unfold ValPost; rw [if_neg he]; exact ⟨rfl, h⟩

theorem wp_frame {P : Program} {c : Code} {Q : Exit → Act → World → Prop} {t t' : Array Value} {w : World} (ht : t = t') (h : c.wp P Q { tmps := t', defers := [] } w) : c.wp P Q { tmps := t, defers := [] } w := ht ▸ h
theorem wp_gen {P : Program} {c : Code} {Q : Exit → Act → World → Prop} {a : Act} {w : World} (h : ∀ Q' : Exit → Act → World → Prop, Hid (∀ e a w, Q e a w → Q' e a w) → c.wp P Q' a w) : c.wp P Q a w := h Q (fun _ _ _ h => h)

def CatchPostInt (w0 w : World) (rb : Nat) (ok : Nat → Prop) (vin : Value) (c : Int) (p : Nat) (inb : List Int) (older : List PanicEntry) (e : Ending) (u' : FrameMode) (w' : World) : Prop :=
  e = .returned (.tuple #[]) ∧ u' = .panicking ({ v := .iface 25 (.int .i64 c), recovered := true } :: older) ∧ RLeft w0 w rb ok vin c p inb w'

theorem catchInt (w0 w : World) (bs bx rb : Nat) (ok : Nat → Prop) (vin : Value) (c : Int) (p q : Nat) (inb : List Int) (older : List PanicEntry) (hV : VarAt w bx rb) (hS : StartAt w bs p) (hp : p ≤ inb.length) (hB : Below w0.heap.size w0 w) (hR : RdAt w w0.heap.size rb ok vin 0 q inb) :
    CallsD Try.prog 60 #[.pointer (some ⟨bs, 0, none⟩), .pointer (some ⟨bx, 0, none⟩)] (.panicking ({ v := .iface 25 (.int .i64 c), recovered := false } :: older)) w (CatchPostInt w0 w rb ok vin c p inb older) := by
  refine callsD_of_wpS Try.func60 rfl fun c₀ cs hu => ?_
  apply wpS_seq
  apply wpS_region
  simp [wpOpsS, go_sem, recoverD, hu, Try.ntmps60, Exit.thenS]
  refine wpS_of_wp ?_
  refine wp_gen (fun Q hQ => ?_)
  refine wp_frame (t' := #[.pointer (some ⟨bs, 0, none⟩), .pointer (some ⟨bx, 0, none⟩), undef, undef, undef, .iface 25 (.int .i64 c), undef, undef, undef, undef, undef, undef, undef, undef, undef, undef, undef, undef, undef, undef]) (by kernel_rfl) ?_
  have hbx : w.cell? ⟨bx, 0, none⟩ = some (.pointer (some ⟨rb, 0, none⟩)) := (blk_cell hV 0).trans rfl
  have hbs : w.cell? ⟨bs, 0, none⟩ = some (.int .i64 p) := (blk_cell hS 0).trans rfl
  have hfr : w.frozen? ⟨rb, 2, none⟩ = false := blk_frozen hR.blk 2
  have hcl : w.cell? ⟨rb, 2, none⟩ = some (.int .i64 q) := (blk_cell hR.blk 2).trans rfl
  have hV2 : (w.setCell ⟨rb, 2, none⟩ (.int .i64 (p : Int))).cell? ⟨bx, 0, none⟩ = some (.pointer (some ⟨rb, 0, none⟩)) := by
    rw [cell_far (p := ⟨rb, 2, none⟩) (a := ⟨bx, 0, none⟩) (hR.ne_var hV)]; exact hbx
  have HR := Lib.hid hR
  have HB := Lib.hid hB
  have HU := Lib.hid hu
  clear hR hB hV hS hu
  have he : ∀ w : World, (binOp .eql 20 (.iface 25 (.int .i64 c)) .nilIface).run Try.prog w = .ok (.bool false) w := fun w => run_eql_held_nil w 20 25 _ (by kernel_rfl)
  have hta : ∀ w : World, (Instr.typeAssert (.iface 25 (.int .i64 c)) 20 25 true).run Try.prog w = .ok (.tuple #[.int .i64 c, .bool true]) w := fun w => by kernel_rfl
  go_wp2_with (first | (go_at_call 43; (refine (fail0_calls _ _ _ _ _ _ (HR.out.setP p hp).blk rfl).mono ?_; rintro r w' ⟨rfl, rfl⟩)))
  refine hQ.out _ _ _ ?_
  exact ⟨rfl, _, rfl, .tuple #[], by simp [results, Try.results60], rfl, rfl, (HR.out.setP p hp).setE c, (HB.out.setCell HR.out.hb _).setCell HR.out.hb _, Kept.setCell (S := fun k => k = rb) (Kept.setCell (S := fun k => k = rb) (Kept.refl w _) (p := ⟨rb, 2, none⟩) (.inl rfl) _) (p := ⟨rb, 0, none⟩) (.inl rfl) _⟩

theorem idleInt (bs bx : Nat) (w : World) :
    CallsD Try.prog 60 #[.pointer (some ⟨bs, 0, none⟩), .pointer (some ⟨bx, 0, none⟩)] .returning w (fun e u' w' => e = .returned (.tuple #[]) ∧ u' = .returning ∧ w = w') := by
  refine callsD_of_wpS Try.func60 rfl fun c₀ cs hu => ?_
  apply wpS_seq
  apply wpS_region
  simp [wpOpsS, go_sem, recoverD, hu, Try.ntmps60, Exit.thenS]
  refine wpS_of_wp ?_
  refine wp_gen (fun Q hQ => ?_)
  refine wp_frame (t' := #[.pointer (some ⟨bs, 0, none⟩), .pointer (some ⟨bx, 0, none⟩), undef, undef, undef, .nilIface, undef, undef, undef, undef, undef, undef, undef, undef, undef, undef, undef, undef, undef, undef]) (by kernel_rfl) ?_
  have he : ∀ w : World, (binOp .eql 20 .nilIface .nilIface).run Try.prog w = .ok (.bool true) w := fun w => run_eql_nil_nil w 20 (by kernel_rfl)
  have HU := Lib.hid hu
  clear hu
  go_wp2
  refine hQ.out _ _ _ ?_
  exact ⟨rfl, .returning, by rw [← HU.out], .tuple #[], by simp [results, Try.results60], rfl, rfl, rfl⟩

set_option maxHeartbeats 1000000 in
theorem valueInt (w0 w : World) (rb : Nat) (ok : Nat → Prop) (vin : Value) (e : Int) (p : Nat) (inb : List Int) (f : FuncId) (cap : Array Value) (x : Except Int (Int × Nat)) (hB : Below w0.heap.size w0 w) (hR : RdAt w w0.heap.size rb ok vin e p inb)
    (hen : ∀ w : World, (callFunc f cap).run Try.prog w = .ok (.enter f cap) w)
    (hcall : ∀ w1, Below w0.heap.size w0 w1 → RdAt w1 w0.heap.size rb ok vin 0 p inb → Kept w w1 (fun _ => False) → Calls Try.prog f cap w1 (RetPost Int (Value.int .i64) w0 w1 rb ok vin 0 inb x)) :
    Calls Try.prog 45 #[.pointer (some ⟨rb, 0, none⟩), .func (.func f) #[] cap] w (ValPost Int (Value.int .i64) (0 : Int) w0 w rb ok vin e p inb x) := by
  have HN := Lib.hid (fun w1 (h : Kept w w1 (fun _ => False)) => none_calls w1 w0.heap.size rb ok vin e p inb (hR.kept h id (fun _ _ => id)))
  have HR := Lib.hid hR
  have HB := Lib.hid hB
  have HC := Lib.hid hcall
  have hcell0 : w.cell? ⟨rb, 0, none⟩ = some (.int .i64 e) := (blk_cell hR.blk 0).trans rfl
  have hcell0' : (w.alloc (.cells #[.pointer (some ⟨rb, 0, none⟩)] 48)).cell? ⟨rb, 0, none⟩ = some (.int .i64 e) := (blk_cell (blk_alloc hR.blk _) 0).trans rfl
  clear hR hB hcall
  have HA := Lib.hid ((Kept.refl w (fun _ => False)).alloc (.cells #[.pointer (some ⟨rb, 0, none⟩)] 48))
  by_cases he : e = 0
  · subst he
    have hcell2' : (w.alloc (.cells #[.pointer (some ⟨rb, 0, none⟩)] 48)).cell? ⟨rb, 2, none⟩ = some (.int .i64 p) := (blk_cell (blk_alloc HR.out.blk _) 2).trans rfl
    have hmf : ∀ (fn : Fn) (first cap : Array Value) (w : World), (Instr.makeFunc fn first cap).run Try.prog w = .ok (.func fn first cap) w := fun _ _ _ _ => rfl
    have HA2 := Lib.hid (HA.out.alloc (.cells #[.int .i64 (p : Int)] 3))
    have hrb := blk_lt HR.out.blk
    have hvne : ¬ (w.heap.size = rb) := by omega
    have hsne : ¬ (w.heap.size + 1 = rb) := by omega
    have HV := Lib.hid (show VarAt ((w.alloc (.cells #[.pointer (some ⟨rb, 0, none⟩)] 48)).alloc (.cells #[.int .i64 (p : Int)] 3)) w.heap.size rb from blk_alloc (blk_new _ _) _)
    have HS := Lib.hid (show StartAt ((w.alloc (.cells #[.pointer (some ⟨rb, 0, none⟩)] 48)).alloc (.cells #[.int .i64 (p : Int)] 3)) (w.heap.size + 1) p by have := blk_new (w.alloc (.cells #[.pointer (some ⟨rb, 0, none⟩)] 48)) (.cells #[.int .i64 (p : Int)] 3); simpa [StartAt] using this)
    have hc := Lib.hid (HC.out _ (below_alloc' (below_alloc' HB.out _) _) (HR.out.kept HA2.out id (fun _ _ => id)) HA2.out)
    cases x with
    | error c =>
      have hc2 := Lib.hid (ret_err rfl hc.out)
      clear hc HC
      go_enter_defers Try.func45, Try.ntmps45
      go_wp2_with (first | (go_at_call 58; (refine (HN.out _ HA.out).mono ?_; rintro r w' ⟨rfl, rfl⟩)) | (go_at_call 39; (refine (broken_calls _ _ _ _ hcell0').mono ?_; rintro r w' ⟨rfl, rfl⟩)) | (refine hc2.out.mono ?_; rintro r w2 ⟨rfl, q, hL⟩; have HL := Aside0.mk hL; clear hL))
      refine leaves_cons (f := 60) (args := #[.pointer (some ⟨w.heap.size + 1, 0, none⟩), .pointer (some ⟨w.heap.size, 0, none⟩)]) (by simp) (by simp [go_sem]) ?_
      refine (catchInt w0 w2 (w.heap.size + 1) w.heap.size rb ok vin c p q inb [] (HV.out.kept HL.out.kept hvne) (HS.out.kept HL.out.kept hsne) HR.out.le HL.out.below HL.out.rd).mono ?_
      rintro e u' w3 ⟨rfl, rfl, hL3⟩
      have HL3 := Aside0.mk (RLeft_left HA2.out (HL.out.trans hL3))
      clear hL3
      exact ⟨_, results_tmp rfl _ _ _, ValPost.mk_err rfl HL3.out⟩
    | ok aq =>
      obtain ⟨a, q⟩ := aq
      have hc2 := Lib.hid (ret_ok rfl hc.out)
      clear hc HC
      go_enter_defers Try.func45, Try.ntmps45
      go_wp2_with (first | (go_at_call 58; (refine (HN.out _ HA.out).mono ?_; rintro r w' ⟨rfl, rfl⟩)) | (go_at_call 39; (refine (broken_calls _ _ _ _ hcell0').mono ?_; rintro r w' ⟨rfl, rfl⟩)) | (refine hc2.out.mono ?_; rintro r w2 ⟨rfl, hL⟩; have HL := Aside0.mk hL; clear hL))
      refine leaves_cons (f := 60) (args := #[.pointer (some ⟨w.heap.size + 1, 0, none⟩), .pointer (some ⟨w.heap.size, 0, none⟩)]) (by simp) (by simp [go_sem]) ?_
      refine (idleInt (w.heap.size + 1) w.heap.size w2).mono ?_
      rintro e u' w3 ⟨rfl, rfl, rfl⟩
      exact ⟨_, results_tmp rfl _ _ _, ValPost.mk_ok rfl (RLeft_left HA2.out HL.out)⟩
  · have hen2 : (e != 0) = true := by simpa using he
    clear hen HC
    go_enter_defers Try.func45, Try.ntmps45
    go_wp2_with (first | (go_at_call 58; (refine (HN.out _ HA.out).mono ?_; rintro r w' ⟨rfl, rfl⟩)) | (go_at_call 39; (refine (broken_calls _ _ _ _ hcell0').mono ?_; rintro r w' ⟨rfl, rfl⟩)))
    exact ⟨_, results_tmp rfl _ _ _, ValPost.mk_none he (RLeft_left HA.out (RLeft.refl (HR.out.kept HA.out id (fun _ _ => id)) (below_alloc' HB.out _)))⟩

def CatchPostBool (w0 w : World) (rb : Nat) (ok : Nat → Prop) (vin : Value) (c : Int) (p : Nat) (inb : List Int) (older : List PanicEntry) (e : Ending) (u' : FrameMode) (w' : World) : Prop :=
  e = .returned (.tuple #[]) ∧ u' = .panicking ({ v := .iface 25 (.int .i64 c), recovered := true } :: older) ∧ RLeft w0 w rb ok vin c p inb w'

theorem catchBool (w0 w : World) (bs bx rb : Nat) (ok : Nat → Prop) (vin : Value) (c : Int) (p q : Nat) (inb : List Int) (older : List PanicEntry) (hV : VarAt w bx rb) (hS : StartAt w bs p) (hp : p ≤ inb.length) (hB : Below w0.heap.size w0 w) (hR : RdAt w w0.heap.size rb ok vin 0 q inb) :
    CallsD Try.prog 61 #[.pointer (some ⟨bs, 0, none⟩), .pointer (some ⟨bx, 0, none⟩)] (.panicking ({ v := .iface 25 (.int .i64 c), recovered := false } :: older)) w (CatchPostBool w0 w rb ok vin c p inb older) := by
  refine callsD_of_wpS Try.func61 rfl fun c₀ cs hu => ?_
  apply wpS_seq
  apply wpS_region
  simp [wpOpsS, go_sem, recoverD, hu, Try.ntmps61, Exit.thenS]
  refine wpS_of_wp ?_
  refine wp_gen (fun Q hQ => ?_)
  refine wp_frame (t' := #[.pointer (some ⟨bs, 0, none⟩), .pointer (some ⟨bx, 0, none⟩), undef, undef, undef, .iface 25 (.int .i64 c), undef, undef, undef, undef, undef, undef, undef, undef, undef, undef, undef, undef, undef, undef]) (by kernel_rfl) ?_
  have hbx : w.cell? ⟨bx, 0, none⟩ = some (.pointer (some ⟨rb, 0, none⟩)) := (blk_cell hV 0).trans rfl
  have hbs : w.cell? ⟨bs, 0, none⟩ = some (.int .i64 p) := (blk_cell hS 0).trans rfl
  have hfr : w.frozen? ⟨rb, 2, none⟩ = false := blk_frozen hR.blk 2
  have hcl : w.cell? ⟨rb, 2, none⟩ = some (.int .i64 q) := (blk_cell hR.blk 2).trans rfl
  have hV2 : (w.setCell ⟨rb, 2, none⟩ (.int .i64 (p : Int))).cell? ⟨bx, 0, none⟩ = some (.pointer (some ⟨rb, 0, none⟩)) := by
    rw [cell_far (p := ⟨rb, 2, none⟩) (a := ⟨bx, 0, none⟩) (hR.ne_var hV)]; exact hbx
  have HR := Lib.hid hR
  have HB := Lib.hid hB
  have HU := Lib.hid hu
  clear hR hB hV hS hu
  have he : ∀ w : World, (binOp .eql 20 (.iface 25 (.int .i64 c)) .nilIface).run Try.prog w = .ok (.bool false) w := fun w => run_eql_held_nil w 20 25 _ (by kernel_rfl)
  have hta : ∀ w : World, (Instr.typeAssert (.iface 25 (.int .i64 c)) 20 25 true).run Try.prog w = .ok (.tuple #[.int .i64 c, .bool true]) w := fun w => by kernel_rfl
  go_wp2_with (first | (go_at_call 43; (refine (fail0_calls _ _ _ _ _ _ (HR.out.setP p hp).blk rfl).mono ?_; rintro r w' ⟨rfl, rfl⟩)))
  refine hQ.out _ _ _ ?_
  exact ⟨rfl, _, rfl, .tuple #[], by simp [results, Try.results61], rfl, rfl, (HR.out.setP p hp).setE c, (HB.out.setCell HR.out.hb _).setCell HR.out.hb _, Kept.setCell (S := fun k => k = rb) (Kept.setCell (S := fun k => k = rb) (Kept.refl w _) (p := ⟨rb, 2, none⟩) (.inl rfl) _) (p := ⟨rb, 0, none⟩) (.inl rfl) _⟩

theorem idleBool (bs bx : Nat) (w : World) :
    CallsD Try.prog 61 #[.pointer (some ⟨bs, 0, none⟩), .pointer (some ⟨bx, 0, none⟩)] .returning w (fun e u' w' => e = .returned (.tuple #[]) ∧ u' = .returning ∧ w = w') := by
  refine callsD_of_wpS Try.func61 rfl fun c₀ cs hu => ?_
  apply wpS_seq
  apply wpS_region
  simp [wpOpsS, go_sem, recoverD, hu, Try.ntmps61, Exit.thenS]
  refine wpS_of_wp ?_
  refine wp_gen (fun Q hQ => ?_)
  refine wp_frame (t' := #[.pointer (some ⟨bs, 0, none⟩), .pointer (some ⟨bx, 0, none⟩), undef, undef, undef, .nilIface, undef, undef, undef, undef, undef, undef, undef, undef, undef, undef, undef, undef, undef, undef]) (by kernel_rfl) ?_
  have he : ∀ w : World, (binOp .eql 20 .nilIface .nilIface).run Try.prog w = .ok (.bool true) w := fun w => run_eql_nil_nil w 20 (by kernel_rfl)
  have HU := Lib.hid hu
  clear hu
  go_wp2
  refine hQ.out _ _ _ ?_
  exact ⟨rfl, .returning, by rw [← HU.out], .tuple #[], by simp [results, Try.results61], rfl, rfl, rfl⟩

set_option maxHeartbeats 1000000 in
theorem valueBool (w0 w : World) (rb : Nat) (ok : Nat → Prop) (vin : Value) (e : Int) (p : Nat) (inb : List Int) (f : FuncId) (cap : Array Value) (x : Except Int (Bool × Nat)) (hB : Below w0.heap.size w0 w) (hR : RdAt w w0.heap.size rb ok vin e p inb)
    (hen : ∀ w : World, (callFunc f cap).run Try.prog w = .ok (.enter f cap) w)
    (hcall : ∀ w1, Below w0.heap.size w0 w1 → RdAt w1 w0.heap.size rb ok vin 0 p inb → Kept w w1 (fun _ => False) → Calls Try.prog f cap w1 (RetPost Bool Value.bool w0 w1 rb ok vin 0 inb x)) :
    Calls Try.prog 50 #[.pointer (some ⟨rb, 0, none⟩), .func (.func f) #[] cap] w (ValPost Bool Value.bool false w0 w rb ok vin e p inb x) := by
  have HN := Lib.hid (fun w1 (h : Kept w w1 (fun _ => False)) => none_calls w1 w0.heap.size rb ok vin e p inb (hR.kept h id (fun _ _ => id)))
  have HR := Lib.hid hR
  have HB := Lib.hid hB
  have HC := Lib.hid hcall
  have hcell0 : w.cell? ⟨rb, 0, none⟩ = some (.int .i64 e) := (blk_cell hR.blk 0).trans rfl
  have hcell0' : (w.alloc (.cells #[.pointer (some ⟨rb, 0, none⟩)] 48)).cell? ⟨rb, 0, none⟩ = some (.int .i64 e) := (blk_cell (blk_alloc hR.blk _) 0).trans rfl
  clear hR hB hcall
  have HA := Lib.hid ((Kept.refl w (fun _ => False)).alloc (.cells #[.pointer (some ⟨rb, 0, none⟩)] 48))
  by_cases he : e = 0
  · subst he
    have hcell2' : (w.alloc (.cells #[.pointer (some ⟨rb, 0, none⟩)] 48)).cell? ⟨rb, 2, none⟩ = some (.int .i64 p) := (blk_cell (blk_alloc HR.out.blk _) 2).trans rfl
    have hmf : ∀ (fn : Fn) (first cap : Array Value) (w : World), (Instr.makeFunc fn first cap).run Try.prog w = .ok (.func fn first cap) w := fun _ _ _ _ => rfl
    have HA2 := Lib.hid (HA.out.alloc (.cells #[.int .i64 (p : Int)] 3))
    have hrb := blk_lt HR.out.blk
    have hvne : ¬ (w.heap.size = rb) := by omega
    have hsne : ¬ (w.heap.size + 1 = rb) := by omega
    have HV := Lib.hid (show VarAt ((w.alloc (.cells #[.pointer (some ⟨rb, 0, none⟩)] 48)).alloc (.cells #[.int .i64 (p : Int)] 3)) w.heap.size rb from blk_alloc (blk_new _ _) _)
    have HS := Lib.hid (show StartAt ((w.alloc (.cells #[.pointer (some ⟨rb, 0, none⟩)] 48)).alloc (.cells #[.int .i64 (p : Int)] 3)) (w.heap.size + 1) p by have := blk_new (w.alloc (.cells #[.pointer (some ⟨rb, 0, none⟩)] 48)) (.cells #[.int .i64 (p : Int)] 3); simpa [StartAt] using this)
    have hc := Lib.hid (HC.out _ (below_alloc' (below_alloc' HB.out _) _) (HR.out.kept HA2.out id (fun _ _ => id)) HA2.out)
    cases x with
    | error c =>
      have hc2 := Lib.hid (ret_err rfl hc.out)
      clear hc HC
      go_enter_defers Try.func50, Try.ntmps50
      go_wp2_with (first | (go_at_call 58; (refine (HN.out _ HA.out).mono ?_; rintro r w' ⟨rfl, rfl⟩)) | (go_at_call 39; (refine (broken_calls _ _ _ _ hcell0').mono ?_; rintro r w' ⟨rfl, rfl⟩)) | (refine hc2.out.mono ?_; rintro r w2 ⟨rfl, q, hL⟩; have HL := Aside0.mk hL; clear hL))
      refine leaves_cons (f := 61) (args := #[.pointer (some ⟨w.heap.size + 1, 0, none⟩), .pointer (some ⟨w.heap.size, 0, none⟩)]) (by simp) (by simp [go_sem]) ?_
      refine (catchBool w0 w2 (w.heap.size + 1) w.heap.size rb ok vin c p q inb [] (HV.out.kept HL.out.kept hvne) (HS.out.kept HL.out.kept hsne) HR.out.le HL.out.below HL.out.rd).mono ?_
      rintro e u' w3 ⟨rfl, rfl, hL3⟩
      have HL3 := Aside0.mk (RLeft_left HA2.out (HL.out.trans hL3))
      clear hL3
      exact ⟨_, results_tmp rfl _ _ _, ValPost.mk_err rfl HL3.out⟩
    | ok aq =>
      obtain ⟨a, q⟩ := aq
      have hc2 := Lib.hid (ret_ok rfl hc.out)
      clear hc HC
      go_enter_defers Try.func50, Try.ntmps50
      go_wp2_with (first | (go_at_call 58; (refine (HN.out _ HA.out).mono ?_; rintro r w' ⟨rfl, rfl⟩)) | (go_at_call 39; (refine (broken_calls _ _ _ _ hcell0').mono ?_; rintro r w' ⟨rfl, rfl⟩)) | (refine hc2.out.mono ?_; rintro r w2 ⟨rfl, hL⟩; have HL := Aside0.mk hL; clear hL))
      refine leaves_cons (f := 61) (args := #[.pointer (some ⟨w.heap.size + 1, 0, none⟩), .pointer (some ⟨w.heap.size, 0, none⟩)]) (by simp) (by simp [go_sem]) ?_
      refine (idleBool (w.heap.size + 1) w.heap.size w2).mono ?_
      rintro e u' w3 ⟨rfl, rfl, rfl⟩
      exact ⟨_, results_tmp rfl _ _ _, ValPost.mk_ok rfl (RLeft_left HA2.out HL.out)⟩
  · have hen2 : (e != 0) = true := by simpa using he
    clear hen HC
    go_enter_defers Try.func50, Try.ntmps50
    go_wp2_with (first | (go_at_call 58; (refine (HN.out _ HA.out).mono ?_; rintro r w' ⟨rfl, rfl⟩)) | (go_at_call 39; (refine (broken_calls _ _ _ _ hcell0').mono ?_; rintro r w' ⟨rfl, rfl⟩)))
    exact ⟨_, results_tmp rfl _ _ _, ValPost.mk_none he (RLeft_left HA.out (RLeft.refl (HR.out.kept HA.out id (fun _ _ => id)) (below_alloc' HB.out _)))⟩

def RowValPost (k : IntKind) (t : TypeId) (w0 w : World) (rb : Nat) (ok : Nat → Prop) (vin : Value) (e : Int) (p : Nat) (inb : List Int) (x : Except Int (List Int × Nat)) (r : Ending) (w' : World) : Prop :=
  if e = 0 then
    match x with
    | .ok (l, q) => (∃ v', r = .returned v' ∧ (Kd.int k).R t w' w0.heap.size (fun k => w.heap.size ≤ k) v' l) ∧ RLeft w0 w rb ok vin 0 q inb w'
    | .error c => r = .returned (.slice none 0 0) ∧ RLeft w0 w rb ok vin c p inb w'
  else r = .returned (.slice none 0 0) ∧ RLeft w0 w rb ok vin e p inb w'
theorem RowValPost.mk_ok {k : IntKind} {t : TypeId} {w0 w w1 : World} {rb : Nat} {ok : Nat → Prop} {vin v' : Value} {p : Nat} {inb : List Int} {x : Except Int (List Int × Nat)} {l : List Int} {q : Nat} (hx : x = .ok (l, q)) (hO : (Kd.int k).R t w1 w0.heap.size (fun k => w.heap.size ≤ k) v' l) (h : RLeft w0 w rb ok vin 0 q inb w1) : RowValPost k t w0 w rb ok vin 0 p inb x (.returned v') w1 := by subst hx; exact ⟨⟨_, rfl, hO⟩, h⟩
theorem RowValPost.mk_err {k : IntKind} {t : TypeId} {w0 w w1 : World} {rb : Nat} {ok : Nat → Prop} {vin : Value} {p : Nat} {inb : List Int} {x : Except Int (List Int × Nat)} {c : Int} (hx : x = .error c) (h : RLeft w0 w rb ok vin c p inb w1) : RowValPost k t w0 w rb ok vin 0 p inb x (.returned (.slice none 0 0)) w1 := by subst hx; exact ⟨rfl, h⟩
theorem RowValPost.mk_none {k : IntKind} {t : TypeId} {w0 w w1 : World} {rb : Nat} {ok : Nat → Prop} {vin : Value} {e : Int} {p : Nat} {inb : List Int} {x : Except Int (List Int × Nat)} (he : e ≠ 0) (h : RLeft w0 w rb ok vin e p inb w1) : RowValPost k t w0 w rb ok vin e p inb x (.returned (.slice none 0 0)) w1 := by unfold RowValPost; rw [if_neg he]; exact ⟨rfl, h⟩
theorem row_ok {k : IntKind} {t : TypeId} {f : FuncId} {args : Array Value} {w0 w : World} {rb : Nat} {ok : Nat → Prop} {vin : Value} {e : Int} {inb : List Int} {x : Except Int (List Int × Nat)} {l : List Int} {q : Nat} (hx : x = .ok (l, q)) (h : Calls Try.prog f args w (RowRet k t w0 w rb ok vin e inb x)) :
    Calls Try.prog f args w (fun r w' => (∃ v', r = .returned v' ∧ (Kd.int k).R t w' w0.heap.size (fun k => w.heap.size ≤ k) v' l) ∧ RLeft w0 w rb ok vin e q inb w') := by subst hx; exact h
theorem row_err {k : IntKind} {t : TypeId} {f : FuncId} {args : Array Value} {w0 w : World} {rb : Nat} {ok : Nat → Prop} {vin : Value} {e : Int} {inb : List Int} {x : Except Int (List Int × Nat)} {c : Int} (hx : x = .error c) (h : Calls Try.prog f args w (RowRet k t w0 w rb ok vin e inb x)) :
    Calls Try.prog f args w (fun r w' => r = errPanic c ∧ ∃ q, RLeft w0 w rb ok vin e q inb w') := by subst hx; exact h

def CatchPostBytes (w0 w : World) (rb : Nat) (ok : Nat → Prop) (vin : Value) (c : Int) (p : Nat) (inb : List Int) (older : List PanicEntry) (e : Ending) (u' : FrameMode) (w' : World) : Prop :=
  e = .returned (.tuple #[]) ∧ u' = .panicking ({ v := .iface 25 (.int .i64 c), recovered := true } :: older) ∧ RLeft w0 w rb ok vin c p inb w'

theorem catchBytes (w0 w : World) (bs bx rb : Nat) (ok : Nat → Prop) (vin : Value) (c : Int) (p q : Nat) (inb : List Int) (older : List PanicEntry) (hV : VarAt w bx rb) (hS : StartAt w bs p) (hp : p ≤ inb.length) (hB : Below w0.heap.size w0 w) (hR : RdAt w w0.heap.size rb ok vin 0 q inb) :
    CallsD Try.prog 62 #[.pointer (some ⟨bs, 0, none⟩), .pointer (some ⟨bx, 0, none⟩)] (.panicking ({ v := .iface 25 (.int .i64 c), recovered := false } :: older)) w (CatchPostBytes w0 w rb ok vin c p inb older) := by
  refine callsD_of_wpS Try.func62 rfl fun c₀ cs hu => ?_
  apply wpS_seq
  apply wpS_region
  simp [wpOpsS, go_sem, recoverD, hu, Try.ntmps62, Exit.thenS]
  refine wpS_of_wp ?_
  refine wp_gen (fun Q hQ => ?_)
  refine wp_frame (t' := #[.pointer (some ⟨bs, 0, none⟩), .pointer (some ⟨bx, 0, none⟩), undef, undef, undef, .iface 25 (.int .i64 c), undef, undef, undef, undef, undef, undef, undef, undef, undef, undef, undef, undef, undef, undef]) (by kernel_rfl) ?_
  have hbx : w.cell? ⟨bx, 0, none⟩ = some (.pointer (some ⟨rb, 0, none⟩)) := (blk_cell hV 0).trans rfl
  have hbs : w.cell? ⟨bs, 0, none⟩ = some (.int .i64 p) := (blk_cell hS 0).trans rfl
  have hfr : w.frozen? ⟨rb, 2, none⟩ = false := blk_frozen hR.blk 2
  have hcl : w.cell? ⟨rb, 2, none⟩ = some (.int .i64 q) := (blk_cell hR.blk 2).trans rfl
  have hV2 : (w.setCell ⟨rb, 2, none⟩ (.int .i64 (p : Int))).cell? ⟨bx, 0, none⟩ = some (.pointer (some ⟨rb, 0, none⟩)) := by
    rw [cell_far (p := ⟨rb, 2, none⟩) (a := ⟨bx, 0, none⟩) (hR.ne_var hV)]; exact hbx
  have HR := Lib.hid hR
  have HB := Lib.hid hB
  have HU := Lib.hid hu
  clear hR hB hV hS hu
  have he : ∀ w : World, (binOp .eql 20 (.iface 25 (.int .i64 c)) .nilIface).run Try.prog w = .ok (.bool false) w := fun w => run_eql_held_nil w 20 25 _ (by kernel_rfl)
  have hta : ∀ w : World, (Instr.typeAssert (.iface 25 (.int .i64 c)) 20 25 true).run Try.prog w = .ok (.tuple #[.int .i64 c, .bool true]) w := fun w => by kernel_rfl
  go_wp2_with (first | (go_at_call 43; (refine (fail0_calls _ _ _ _ _ _ (HR.out.setP p hp).blk rfl).mono ?_; rintro r w' ⟨rfl, rfl⟩)))
  refine hQ.out _ _ _ ?_
  exact ⟨rfl, _, rfl, .tuple #[], by simp [results, Try.results62], rfl, rfl, (HR.out.setP p hp).setE c, (HB.out.setCell HR.out.hb _).setCell HR.out.hb _, Kept.setCell (S := fun k => k = rb) (Kept.setCell (S := fun k => k = rb) (Kept.refl w _) (p := ⟨rb, 2, none⟩) (.inl rfl) _) (p := ⟨rb, 0, none⟩) (.inl rfl) _⟩

theorem idleBytes (bs bx : Nat) (w : World) :
    CallsD Try.prog 62 #[.pointer (some ⟨bs, 0, none⟩), .pointer (some ⟨bx, 0, none⟩)] .returning w (fun e u' w' => e = .returned (.tuple #[]) ∧ u' = .returning ∧ w = w') := by
  refine callsD_of_wpS Try.func62 rfl fun c₀ cs hu => ?_
  apply wpS_seq
  apply wpS_region
  simp [wpOpsS, go_sem, recoverD, hu, Try.ntmps62, Exit.thenS]
  refine wpS_of_wp ?_
  refine wp_gen (fun Q hQ => ?_)
  refine wp_frame (t' := #[.pointer (some ⟨bs, 0, none⟩), .pointer (some ⟨bx, 0, none⟩), undef, undef, undef, .nilIface, undef, undef, undef, undef, undef, undef, undef, undef, undef, undef, undef, undef, undef, undef]) (by kernel_rfl) ?_
  have he : ∀ w : World, (binOp .eql 20 .nilIface .nilIface).run Try.prog w = .ok (.bool true) w := fun w => run_eql_nil_nil w 20 (by kernel_rfl)
  have HU := Lib.hid hu
  clear hu
  go_wp2
  refine hQ.out _ _ _ ?_
  exact ⟨rfl, .returning, by rw [← HU.out], .tuple #[], by simp [results, Try.results62], rfl, rfl, rfl⟩

set_option maxHeartbeats 1000000 in
theorem valueBytes (w0 w : World) (rb : Nat) (ok : Nat → Prop) (vin : Value) (e : Int) (p : Nat) (inb : List Int) (f : FuncId) (cap : Array Value) (x : Except Int (List Int × Nat)) (hB : Below w0.heap.size w0 w) (hR : RdAt w w0.heap.size rb ok vin e p inb)
    (hen : ∀ w : World, (callFunc f cap).run Try.prog w = .ok (.enter f cap) w)
    (hcall : ∀ w1, Below w0.heap.size w0 w1 → RdAt w1 w0.heap.size rb ok vin 0 p inb → Kept w w1 (fun _ => False) → Calls Try.prog f cap w1 (RowRet .u8 5 w0 w1 rb ok vin 0 inb x)) :
    Calls Try.prog 53 #[.pointer (some ⟨rb, 0, none⟩), .func (.func f) #[] cap] w (RowValPost .u8 5 w0 w rb ok vin e p inb x) := by
  have HN := Lib.hid (fun w1 (h : Kept w w1 (fun _ => False)) => none_calls w1 w0.heap.size rb ok vin e p inb (hR.kept h id (fun _ _ => id)))
  have HR := Lib.hid hR
  have HB := Lib.hid hB
  have HC := Lib.hid hcall
  have hcell0 : w.cell? ⟨rb, 0, none⟩ = some (.int .i64 e) := (blk_cell hR.blk 0).trans rfl
  have hcell0' : (w.alloc (.cells #[.pointer (some ⟨rb, 0, none⟩)] 48)).cell? ⟨rb, 0, none⟩ = some (.int .i64 e) := (blk_cell (blk_alloc hR.blk _) 0).trans rfl
  clear hR hB hcall
  have HA := Lib.hid ((Kept.refl w (fun _ => False)).alloc (.cells #[.pointer (some ⟨rb, 0, none⟩)] 48))
  by_cases he : e = 0
  · subst he
    have hcell2' : (w.alloc (.cells #[.pointer (some ⟨rb, 0, none⟩)] 48)).cell? ⟨rb, 2, none⟩ = some (.int .i64 p) := (blk_cell (blk_alloc HR.out.blk _) 2).trans rfl
    have hmf : ∀ (fn : Fn) (first cap : Array Value) (w : World), (Instr.makeFunc fn first cap).run Try.prog w = .ok (.func fn first cap) w := fun _ _ _ _ => rfl
    have HA2 := Lib.hid (HA.out.alloc (.cells #[.int .i64 (p : Int)] 3))
    have hrb := blk_lt HR.out.blk
    have hvne : ¬ (w.heap.size = rb) := by omega
    have hsne : ¬ (w.heap.size + 1 = rb) := by omega
    have HV := Lib.hid (show VarAt ((w.alloc (.cells #[.pointer (some ⟨rb, 0, none⟩)] 48)).alloc (.cells #[.int .i64 (p : Int)] 3)) w.heap.size rb from blk_alloc (blk_new _ _) _)
    have HS := Lib.hid (show StartAt ((w.alloc (.cells #[.pointer (some ⟨rb, 0, none⟩)] 48)).alloc (.cells #[.int .i64 (p : Int)] 3)) (w.heap.size + 1) p by have := blk_new (w.alloc (.cells #[.pointer (some ⟨rb, 0, none⟩)] 48)) (.cells #[.int .i64 (p : Int)] 3); simpa [StartAt] using this)
    have hc := Lib.hid (HC.out _ (below_alloc' (below_alloc' HB.out _) _) (HR.out.kept HA2.out id (fun _ _ => id)) HA2.out)
    cases x with
    | error c =>
      have hc2 := Lib.hid (row_err rfl hc.out)
      clear hc HC
      go_enter_defers Try.func53, Try.ntmps53
      go_wp2_with (first | (go_at_call 58; (refine (HN.out _ HA.out).mono ?_; rintro r w' ⟨rfl, rfl⟩)) | (go_at_call 39; (refine (broken_calls _ _ _ _ hcell0').mono ?_; rintro r w' ⟨rfl, rfl⟩)) | (refine hc2.out.mono ?_; rintro r w2 ⟨rfl, q, hL⟩; have HL := Aside0.mk hL; clear hL))
      refine leaves_cons (f := 62) (args := #[.pointer (some ⟨w.heap.size + 1, 0, none⟩), .pointer (some ⟨w.heap.size, 0, none⟩)]) (by simp) (by simp [go_sem]) ?_
      refine (catchBytes w0 w2 (w.heap.size + 1) w.heap.size rb ok vin c p q inb [] (HV.out.kept HL.out.kept hvne) (HS.out.kept HL.out.kept hsne) HR.out.le HL.out.below HL.out.rd).mono ?_
      rintro e u' w3 ⟨rfl, rfl, hL3⟩
      have HL3 := Aside0.mk (RLeft_left HA2.out (HL.out.trans hL3))
      clear hL3
      exact ⟨_, results_tmp rfl _ _ _, RowValPost.mk_err rfl HL3.out⟩
    | ok aq =>
      obtain ⟨a, q⟩ := aq
      have hc2 := Lib.hid (row_ok rfl hc.out)
      clear hc HC
      go_enter_defers Try.func53, Try.ntmps53
      go_wp2_with (first | (go_at_call 58; (refine (HN.out _ HA.out).mono ?_; rintro r w' ⟨rfl, rfl⟩)) | (go_at_call 39; (refine (broken_calls _ _ _ _ hcell0').mono ?_; rintro r w' ⟨rfl, rfl⟩)) | (refine hc2.out.mono ?_; rintro r w2 ⟨⟨v2, rfl, hO⟩, hL⟩; have HL := Aside0.mk hL; have HO := Aside0.mk hO; clear hL hO))
      refine leaves_cons (f := 62) (args := #[.pointer (some ⟨w.heap.size + 1, 0, none⟩), .pointer (some ⟨w.heap.size, 0, none⟩)]) (by simp) (by simp [go_sem]) ?_
      refine (idleBytes (w.heap.size + 1) w.heap.size w2).mono ?_
      rintro e u' w3 ⟨rfl, rfl, rfl⟩
      exact ⟨_, results_tmp rfl _ _ _, RowValPost.mk_ok rfl (Kd.R_mono HO.out (fun k hk => Nat.le_trans HA2.out.1 hk)) (RLeft_left HA2.out HL.out)⟩
  · have hen2 : (e != 0) = true := by simpa using he
    clear hen HC
    go_enter_defers Try.func53, Try.ntmps53
    go_wp2_with (first | (go_at_call 58; (refine (HN.out _ HA.out).mono ?_; rintro r w' ⟨rfl, rfl⟩)) | (go_at_call 39; (refine (broken_calls _ _ _ _ hcell0').mono ?_; rintro r w' ⟨rfl, rfl⟩)))
    exact ⟨_, results_tmp rfl _ _ _, RowValPost.mk_none he (RLeft_left HA.out (RLeft.refl (HR.out.kept HA.out id (fun _ _ => id)) (below_alloc' HB.out _)))⟩

def CatchPostInts (w0 w : World) (rb : Nat) (ok : Nat → Prop) (vin : Value) (c : Int) (p : Nat) (inb : List Int) (older : List PanicEntry) (e : Ending) (u' : FrameMode) (w' : World) : Prop :=
  e = .returned (.tuple #[]) ∧ u' = .panicking ({ v := .iface 25 (.int .i64 c), recovered := true } :: older) ∧ RLeft w0 w rb ok vin c p inb w'

theorem catchInts (w0 w : World) (bs bx rb : Nat) (ok : Nat → Prop) (vin : Value) (c : Int) (p q : Nat) (inb : List Int) (older : List PanicEntry) (hV : VarAt w bx rb) (hS : StartAt w bs p) (hp : p ≤ inb.length) (hB : Below w0.heap.size w0 w) (hR : RdAt w w0.heap.size rb ok vin 0 q inb) :
    CallsD Try.prog 63 #[.pointer (some ⟨bs, 0, none⟩), .pointer (some ⟨bx, 0, none⟩)] (.panicking ({ v := .iface 25 (.int .i64 c), recovered := false } :: older)) w (CatchPostInts w0 w rb ok vin c p inb older) := by
  refine callsD_of_wpS Try.func63 rfl fun c₀ cs hu => ?_
  apply wpS_seq
  apply wpS_region
  simp [wpOpsS, go_sem, recoverD, hu, Try.ntmps63, Exit.thenS]
  refine wpS_of_wp ?_
  refine wp_gen (fun Q hQ => ?_)
  refine wp_frame (t' := #[.pointer (some ⟨bs, 0, none⟩), .pointer (some ⟨bx, 0, none⟩), undef, undef, undef, .iface 25 (.int .i64 c), undef, undef, undef, undef, undef, undef, undef, undef, undef, undef, undef, undef, undef, undef]) (by kernel_rfl) ?_
  have hbx : w.cell? ⟨bx, 0, none⟩ = some (.pointer (some ⟨rb, 0, none⟩)) := (blk_cell hV 0).trans rfl
  have hbs : w.cell? ⟨bs, 0, none⟩ = some (.int .i64 p) := (blk_cell hS 0).trans rfl
  have hfr : w.frozen? ⟨rb, 2, none⟩ = false := blk_frozen hR.blk 2
  have hcl : w.cell? ⟨rb, 2, none⟩ = some (.int .i64 q) := (blk_cell hR.blk 2).trans rfl
  have hV2 : (w.setCell ⟨rb, 2, none⟩ (.int .i64 (p : Int))).cell? ⟨bx, 0, none⟩ = some (.pointer (some ⟨rb, 0, none⟩)) := by
    rw [cell_far (p := ⟨rb, 2, none⟩) (a := ⟨bx, 0, none⟩) (hR.ne_var hV)]; exact hbx
  have HR := Lib.hid hR
  have HB := Lib.hid hB
  have HU := Lib.hid hu
  clear hR hB hV hS hu
  have he : ∀ w : World, (binOp .eql 20 (.iface 25 (.int .i64 c)) .nilIface).run Try.prog w = .ok (.bool false) w := fun w => run_eql_held_nil w 20 25 _ (by kernel_rfl)
  have hta : ∀ w : World, (Instr.typeAssert (.iface 25 (.int .i64 c)) 20 25 true).run Try.prog w = .ok (.tuple #[.int .i64 c, .bool true]) w := fun w => by kernel_rfl
  go_wp2_with (first | (go_at_call 43; (refine (fail0_calls _ _ _ _ _ _ (HR.out.setP p hp).blk rfl).mono ?_; rintro r w' ⟨rfl, rfl⟩)))
  refine hQ.out _ _ _ ?_
  exact ⟨rfl, _, rfl, .tuple #[], by simp [results, Try.results63], rfl, rfl, (HR.out.setP p hp).setE c, (HB.out.setCell HR.out.hb _).setCell HR.out.hb _, Kept.setCell (S := fun k => k = rb) (Kept.setCell (S := fun k => k = rb) (Kept.refl w _) (p := ⟨rb, 2, none⟩) (.inl rfl) _) (p := ⟨rb, 0, none⟩) (.inl rfl) _⟩

theorem idleInts (bs bx : Nat) (w : World) :
    CallsD Try.prog 63 #[.pointer (some ⟨bs, 0, none⟩), .pointer (some ⟨bx, 0, none⟩)] .returning w (fun e u' w' => e = .returned (.tuple #[]) ∧ u' = .returning ∧ w = w') := by
  refine callsD_of_wpS Try.func63 rfl fun c₀ cs hu => ?_
  apply wpS_seq
  apply wpS_region
  simp [wpOpsS, go_sem, recoverD, hu, Try.ntmps63, Exit.thenS]
  refine wpS_of_wp ?_
  refine wp_gen (fun Q hQ => ?_)
  refine wp_frame (t' := #[.pointer (some ⟨bs, 0, none⟩), .pointer (some ⟨bx, 0, none⟩), undef, undef, undef, .nilIface, undef, undef, undef, undef, undef, undef, undef, undef, undef, undef, undef, undef, undef, undef]) (by kernel_rfl) ?_
  have he : ∀ w : World, (binOp .eql 20 .nilIface .nilIface).run Try.prog w = .ok (.bool true) w := fun w => run_eql_nil_nil w 20 (by kernel_rfl)
  have HU := Lib.hid hu
  clear hu
  go_wp2
  refine hQ.out _ _ _ ?_
  exact ⟨rfl, .returning, by rw [← HU.out], .tuple #[], by simp [results, Try.results63], rfl, rfl, rfl⟩

set_option maxHeartbeats 1000000 in
theorem valueInts (w0 w : World) (rb : Nat) (ok : Nat → Prop) (vin : Value) (e : Int) (p : Nat) (inb : List Int) (f : FuncId) (cap : Array Value) (x : Except Int (List Int × Nat)) (hB : Below w0.heap.size w0 w) (hR : RdAt w w0.heap.size rb ok vin e p inb)
    (hen : ∀ w : World, (callFunc f cap).run Try.prog w = .ok (.enter f cap) w)
    (hcall : ∀ w1, Below w0.heap.size w0 w1 → RdAt w1 w0.heap.size rb ok vin 0 p inb → Kept w w1 (fun _ => False) → Calls Try.prog f cap w1 (RowRet .i64 3 w0 w1 rb ok vin 0 inb x)) :
    Calls Try.prog 56 #[.pointer (some ⟨rb, 0, none⟩), .func (.func f) #[] cap] w (RowValPost .i64 3 w0 w rb ok vin e p inb x) := by
  have HN := Lib.hid (fun w1 (h : Kept w w1 (fun _ => False)) => none_calls w1 w0.heap.size rb ok vin e p inb (hR.kept h id (fun _ _ => id)))
  have HR := Lib.hid hR
  have HB := Lib.hid hB
  have HC := Lib.hid hcall
  have hcell0 : w.cell? ⟨rb, 0, none⟩ = some (.int .i64 e) := (blk_cell hR.blk 0).trans rfl
  have hcell0' : (w.alloc (.cells #[.pointer (some ⟨rb, 0, none⟩)] 48)).cell? ⟨rb, 0, none⟩ = some (.int .i64 e) := (blk_cell (blk_alloc hR.blk _) 0).trans rfl
  clear hR hB hcall
  have HA := Lib.hid ((Kept.refl w (fun _ => False)).alloc (.cells #[.pointer (some ⟨rb, 0, none⟩)] 48))
  by_cases he : e = 0
  · subst he
    have hcell2' : (w.alloc (.cells #[.pointer (some ⟨rb, 0, none⟩)] 48)).cell? ⟨rb, 2, none⟩ = some (.int .i64 p) := (blk_cell (blk_alloc HR.out.blk _) 2).trans rfl
    have hmf : ∀ (fn : Fn) (first cap : Array Value) (w : World), (Instr.makeFunc fn first cap).run Try.prog w = .ok (.func fn first cap) w := fun _ _ _ _ => rfl
    have HA2 := Lib.hid (HA.out.alloc (.cells #[.int .i64 (p : Int)] 3))
    have hrb := blk_lt HR.out.blk
    have hvne : ¬ (w.heap.size = rb) := by omega
    have hsne : ¬ (w.heap.size + 1 = rb) := by omega
    have HV := Lib.hid (show VarAt ((w.alloc (.cells #[.pointer (some ⟨rb, 0, none⟩)] 48)).alloc (.cells #[.int .i64 (p : Int)] 3)) w.heap.size rb from blk_alloc (blk_new _ _) _)
    have HS := Lib.hid (show StartAt ((w.alloc (.cells #[.pointer (some ⟨rb, 0, none⟩)] 48)).alloc (.cells #[.int .i64 (p : Int)] 3)) (w.heap.size + 1) p by have := blk_new (w.alloc (.cells #[.pointer (some ⟨rb, 0, none⟩)] 48)) (.cells #[.int .i64 (p : Int)] 3); simpa [StartAt] using this)
    have hc := Lib.hid (HC.out _ (below_alloc' (below_alloc' HB.out _) _) (HR.out.kept HA2.out id (fun _ _ => id)) HA2.out)
    cases x with
    | error c =>
      have hc2 := Lib.hid (row_err rfl hc.out)
      clear hc HC
      go_enter_defers Try.func56, Try.ntmps56
      go_wp2_with (first | (go_at_call 58; (refine (HN.out _ HA.out).mono ?_; rintro r w' ⟨rfl, rfl⟩)) | (go_at_call 39; (refine (broken_calls _ _ _ _ hcell0').mono ?_; rintro r w' ⟨rfl, rfl⟩)) | (refine hc2.out.mono ?_; rintro r w2 ⟨rfl, q, hL⟩; have HL := Aside0.mk hL; clear hL))
      refine leaves_cons (f := 63) (args := #[.pointer (some ⟨w.heap.size + 1, 0, none⟩), .pointer (some ⟨w.heap.size, 0, none⟩)]) (by simp) (by simp [go_sem]) ?_
      refine (catchInts w0 w2 (w.heap.size + 1) w.heap.size rb ok vin c p q inb [] (HV.out.kept HL.out.kept hvne) (HS.out.kept HL.out.kept hsne) HR.out.le HL.out.below HL.out.rd).mono ?_
      rintro e u' w3 ⟨rfl, rfl, hL3⟩
      have HL3 := Aside0.mk (RLeft_left HA2.out (HL.out.trans hL3))
      clear hL3
      exact ⟨_, results_tmp rfl _ _ _, RowValPost.mk_err rfl HL3.out⟩
    | ok aq =>
      obtain ⟨a, q⟩ := aq
      have hc2 := Lib.hid (row_ok rfl hc.out)
      clear hc HC
      go_enter_defers Try.func56, Try.ntmps56
      go_wp2_with (first | (go_at_call 58; (refine (HN.out _ HA.out).mono ?_; rintro r w' ⟨rfl, rfl⟩)) | (go_at_call 39; (refine (broken_calls _ _ _ _ hcell0').mono ?_; rintro r w' ⟨rfl, rfl⟩)) | (refine hc2.out.mono ?_; rintro r w2 ⟨⟨v2, rfl, hO⟩, hL⟩; have HL := Aside0.mk hL; have HO := Aside0.mk hO; clear hL hO))
      refine leaves_cons (f := 63) (args := #[.pointer (some ⟨w.heap.size + 1, 0, none⟩), .pointer (some ⟨w.heap.size, 0, none⟩)]) (by simp) (by simp [go_sem]) ?_
      refine (idleInts (w.heap.size + 1) w.heap.size w2).mono ?_
      rintro e u' w3 ⟨rfl, rfl, rfl⟩
      exact ⟨_, results_tmp rfl _ _ _, RowValPost.mk_ok rfl (Kd.R_mono HO.out (fun k hk => Nat.le_trans HA2.out.1 hk)) (RLeft_left HA2.out HL.out)⟩
  · have hen2 : (e != 0) = true := by simpa using he
    clear hen HC
    go_enter_defers Try.func56, Try.ntmps56
    go_wp2_with (first | (go_at_call 58; (refine (HN.out _ HA.out).mono ?_; rintro r w' ⟨rfl, rfl⟩)) | (go_at_call 39; (refine (broken_calls _ _ _ _ hcell0').mono ?_; rintro r w' ⟨rfl, rfl⟩)))
    exact ⟨_, results_tmp rfl _ _ _, RowValPost.mk_none he (RLeft_left HA.out (RLeft.refl (HR.out.kept HA.out id (fun _ _ => id)) (below_alloc' HB.out _)))⟩
end Go.Proofs.Ytpbmfdflmmeghaa.Wire
