import Derived.Test.YtpbmfdflmmeghaaWo
namespace Go.Proofs.Ytpbmfdflmmeghaa.Wire
open Go.RowKit Go.Proofs.YtpbmfdflmmeghaaW.PrintWords Go.Proofs.YtpbmfdflmmeghaaW.PrintLast Go.Proofs.YtpbmfdflmmeghaaW.PrintMore
set_option linter.unusedVariables false
set_option linter.unusedSimpArgs false

/-- No reader: nil, or a zero one. -/
def NoRd (w : World) (P : Option Addr) : Prop := P = none ∨ ∃ rb, P = some ⟨rb, 0, none⟩ ∧ w.heap[rb]? = some (.cells #[.int .i64 0, .slice none 0 0, .int .i64 0, .bool false] 61 (0, 0))
theorem NoRd.kept {w w' : World} {P : Option Addr} (h : NoRd w P) (hk : Kept w w' (fun _ => False)) : NoRd w' P := by
  rcases h with h | ⟨rb, h, hb⟩
  · exact .inl h
  · exact .inr ⟨rb, h, blk_kept hb hk id⟩

theorem noNone_calls (w : World) (P : Option Addr) (h : NoRd w P) : Calls Try.prog 58 #[.pointer P] w (fun r w' => r = .returned (.bool true) ∧ w = w') := by
  rcases h with rfl | ⟨rb, rfl, hb⟩
  · go_enter Try.func58, Try.ntmps58
    go_wp2
    go_ret
    exact ⟨rfl, rfl⟩
  · have hcell3 : w.cell? ⟨rb, 3, none⟩ = some (.bool false) := (blk_cell hb 3).trans rfl
    clear hb
    go_enter Try.func58, Try.ntmps58
    go_wp2
    go_ret
    exact ⟨rfl, rfl⟩

/-- Nothing known is written, and what is handed back. -/
def NoPost (w0 w : World) (v : Value) (r : Ending) (w' : World) : Prop := r = .returned v ∧ Below w0.heap.size w0 w' ∧ Kept w w' (fun _ => False)

theorem noValueInt (w0 w : World) (P : Option Addr) (fv : Value) (hB : Below w0.heap.size w0 w) (h : NoRd w P) :
    Calls Try.prog 45 #[.pointer P, fv] w (NoPost w0 w (.int .i64 0)) := by
  have HA := Lib.hid ((Kept.refl w (fun _ => False)).alloc (.cells #[.pointer P] 48))
  have HN := Lib.hid (noNone_calls _ P (h.kept HA.out))
  have HB := Lib.hid hB
  clear hB h
  go_enter_defers Try.func45, Try.ntmps45
  go_wp2_with (first | (go_at_call 58; (refine HN.out.mono ?_; rintro r w' ⟨rfl, rfl⟩)))
  exact ⟨_, results_tmp rfl _ _ _, rfl, below_alloc' HB.out _, HA.out⟩

theorem noValueBool (w0 w : World) (P : Option Addr) (fv : Value) (hB : Below w0.heap.size w0 w) (h : NoRd w P) :
    Calls Try.prog 50 #[.pointer P, fv] w (NoPost w0 w (.bool false)) := by
  have HA := Lib.hid ((Kept.refl w (fun _ => False)).alloc (.cells #[.pointer P] 48))
  have HN := Lib.hid (noNone_calls _ P (h.kept HA.out))
  have HB := Lib.hid hB
  clear hB h
  go_enter_defers Try.func50, Try.ntmps50
  go_wp2_with (first | (go_at_call 58; (refine HN.out.mono ?_; rintro r w' ⟨rfl, rfl⟩)))
  exact ⟨_, results_tmp rfl _ _ _, rfl, below_alloc' HB.out _, HA.out⟩

theorem noValueBytes (w0 w : World) (P : Option Addr) (fv : Value) (hB : Below w0.heap.size w0 w) (h : NoRd w P) :
    Calls Try.prog 53 #[.pointer P, fv] w (NoPost w0 w (.slice none 0 0)) := by
  have HA := Lib.hid ((Kept.refl w (fun _ => False)).alloc (.cells #[.pointer P] 48))
  have HN := Lib.hid (noNone_calls _ P (h.kept HA.out))
  have HB := Lib.hid hB
  clear hB h
  go_enter_defers Try.func53, Try.ntmps53
  go_wp2_with (first | (go_at_call 58; (refine HN.out.mono ?_; rintro r w' ⟨rfl, rfl⟩)))
  exact ⟨_, results_tmp rfl _ _ _, rfl, below_alloc' HB.out _, HA.out⟩

theorem noValueInts (w0 w : World) (P : Option Addr) (fv : Value) (hB : Below w0.heap.size w0 w) (h : NoRd w P) :
    Calls Try.prog 56 #[.pointer P, fv] w (NoPost w0 w (.slice none 0 0)) := by
  have HA := Lib.hid ((Kept.refl w (fun _ => False)).alloc (.cells #[.pointer P] 48))
  have HN := Lib.hid (noNone_calls _ P (h.kept HA.out))
  have HB := Lib.hid hB
  clear hB h
  go_enter_defers Try.func56, Try.ntmps56
  go_wp2_with (first | (go_at_call 58; (refine HN.out.mono ?_; rintro r w' ⟨rfl, rfl⟩)))
  exact ⟨_, results_tmp rfl _ _ _, rfl, below_alloc' HB.out _, HA.out⟩

theorem noUint_calls (w0 w : World) (P : Option Addr) (hB : Below w0.heap.size w0 w) (h : NoRd w P) :
    Calls Try.prog 24 #[.pointer P] w (NoPost w0 w (.int .i64 0)) := by
  have hmf : ∀ (fn : Fn) (first cap : Array Value) (w : World), (Instr.makeFunc fn first cap).run Try.prog w = .ok (.func fn first cap) w := fun _ _ _ _ => rfl
  have HA := Lib.hid ((Kept.refl w (fun _ => False)).alloc (.cells #[.pointer P] 48))
  have HC := Lib.hid (fun fv => noValueInt w0 _ P fv (below_alloc' hB (.cells #[.pointer P] 48)) (h.kept HA.out))
  clear hB h
  go_enter Try.func24, Try.ntmps24
  go_wp2_with (first | (go_at_call 45; (refine (HC.out _).mono ?_; rintro r w1 ⟨rfl, hB, hK⟩; have HB1 := Lib.hid hB; have HK1 := Lib.hid (HA.out.then_ hK (fun _ h => h.elim)); clear hB hK)))
  go_ret
  exact ⟨rfl, HB1.out, HK1.out⟩

theorem noInt_calls (w0 w : World) (P : Option Addr) (hB : Below w0.heap.size w0 w) (h : NoRd w P) :
    Calls Try.prog 22 #[.pointer P] w (NoPost w0 w (.int .i64 0)) := by
  have hmf : ∀ (fn : Fn) (first cap : Array Value) (w : World), (Instr.makeFunc fn first cap).run Try.prog w = .ok (.func fn first cap) w := fun _ _ _ _ => rfl
  have HA := Lib.hid ((Kept.refl w (fun _ => False)).alloc (.cells #[.pointer P] 48))
  have HC := Lib.hid (fun fv => noValueInt w0 _ P fv (below_alloc' hB (.cells #[.pointer P] 48)) (h.kept HA.out))
  clear hB h
  go_enter Try.func22, Try.ntmps22
  go_wp2_with (first | (go_at_call 45; (refine (HC.out _).mono ?_; rintro r w1 ⟨rfl, hB, hK⟩; have HB1 := Lib.hid hB; have HK1 := Lib.hid (HA.out.then_ hK (fun _ h => h.elim)); clear hB hK)))
  go_ret
  exact ⟨rfl, HB1.out, HK1.out⟩

theorem noBool_calls (w0 w : World) (P : Option Addr) (hB : Below w0.heap.size w0 w) (h : NoRd w P) :
    Calls Try.prog 27 #[.pointer P] w (NoPost w0 w (.bool false)) := by
  have hmf : ∀ (fn : Fn) (first cap : Array Value) (w : World), (Instr.makeFunc fn first cap).run Try.prog w = .ok (.func fn first cap) w := fun _ _ _ _ => rfl
  have HA := Lib.hid ((Kept.refl w (fun _ => False)).alloc (.cells #[.pointer P] 48))
  have HC := Lib.hid (fun fv => noValueBool w0 _ P fv (below_alloc' hB (.cells #[.pointer P] 48)) (h.kept HA.out))
  clear hB h
  go_enter Try.func27, Try.ntmps27
  go_wp2_with (first | (go_at_call 50; (refine (HC.out _).mono ?_; rintro r w1 ⟨rfl, hB, hK⟩; have HB1 := Lib.hid hB; have HK1 := Lib.hid (HA.out.then_ hK (fun _ h => h.elim)); clear hB hK)))
  go_ret
  exact ⟨rfl, HB1.out, HK1.out⟩

theorem noCount_calls (w0 w : World) (P : Option Addr) (limit : Int) (hB : Below w0.heap.size w0 w) (h : NoRd w P) :
    Calls Try.prog 34 #[.pointer P, .int .i64 limit] w (NoPost w0 w (.int .i64 0)) := by
  have hmf : ∀ (fn : Fn) (first cap : Array Value) (w : World), (Instr.makeFunc fn first cap).run Try.prog w = .ok (.func fn first cap) w := fun _ _ _ _ => rfl
  have HA := Lib.hid (((Kept.refl w (fun _ => False)).alloc (.cells #[.pointer P] 48)).alloc (.cells #[.int .i64 limit] 3))
  have HC := Lib.hid (fun fv => noValueInt w0 _ P fv (below_alloc' (below_alloc' hB (.cells #[.pointer P] 48)) (.cells #[.int .i64 limit] 3)) (h.kept HA.out))
  clear hB h
  go_enter Try.func34, Try.ntmps34
  go_wp2_with (first | (go_at_call 45; (refine (HC.out _).mono ?_; rintro r w1 ⟨rfl, hB, hK⟩; have HB1 := Lib.hid hB; have HK1 := Lib.hid (HA.out.then_ hK (fun _ h => h.elim)); clear hB hK)))
  go_ret
  exact ⟨rfl, HB1.out, HK1.out⟩

theorem noBytes_calls (w0 w : World) (P : Option Addr) (limit : Int) (hB : Below w0.heap.size w0 w) (h : NoRd w P) :
    Calls Try.prog 28 #[.pointer P, .int .i64 limit] w (NoPost w0 w (.slice none 0 0)) := by
  have hmf : ∀ (fn : Fn) (first cap : Array Value) (w : World), (Instr.makeFunc fn first cap).run Try.prog w = .ok (.func fn first cap) w := fun _ _ _ _ => rfl
  have HA := Lib.hid (((Kept.refl w (fun _ => False)).alloc (.cells #[.pointer P] 48)).alloc (.cells #[.int .i64 limit] 3))
  have HC := Lib.hid (fun fv => noValueBytes w0 _ P fv (below_alloc' (below_alloc' hB (.cells #[.pointer P] 48)) (.cells #[.int .i64 limit] 3)) (h.kept HA.out))
  clear hB h
  go_enter Try.func28, Try.ntmps28
  go_wp2_with (first | (go_at_call 53; (refine (HC.out _).mono ?_; rintro r w1 ⟨rfl, hB, hK⟩; have HB1 := Lib.hid hB; have HK1 := Lib.hid (HA.out.then_ hK (fun _ h => h.elim)); clear hB hK)))
  go_ret
  exact ⟨rfl, HB1.out, HK1.out⟩

theorem noInts_calls (w0 w : World) (P : Option Addr) (limit : Int) (hB : Below w0.heap.size w0 w) (h : NoRd w P) :
    Calls Try.prog 31 #[.pointer P, .int .i64 limit] w (NoPost w0 w (.slice none 0 0)) := by
  have hmf : ∀ (fn : Fn) (first cap : Array Value) (w : World), (Instr.makeFunc fn first cap).run Try.prog w = .ok (.func fn first cap) w := fun _ _ _ _ => rfl
  have HA := Lib.hid (((Kept.refl w (fun _ => False)).alloc (.cells #[.pointer P] 48)).alloc (.cells #[.int .i64 limit] 3))
  have HC := Lib.hid (fun fv => noValueInts w0 _ P fv (below_alloc' (below_alloc' hB (.cells #[.pointer P] 48)) (.cells #[.int .i64 limit] 3)) (h.kept HA.out))
  clear hB h
  go_enter Try.func31, Try.ntmps31
  go_wp2_with (first | (go_at_call 56; (refine (HC.out _).mono ?_; rintro r w1 ⟨rfl, hB, hK⟩; have HB1 := Lib.hid hB; have HK1 := Lib.hid (HA.out.then_ hK (fun _ h => h.elim)); clear hB hK)))
  go_ret
  exact ⟨rfl, HB1.out, HK1.out⟩

theorem noString_calls (w0 w : World) (P : Option Addr) (limit : Int) (hB : Below w0.heap.size w0 w) (h : NoRd w P) :
    Calls Try.prog 29 #[.pointer P, .int .i64 limit] w (NoPost w0 w (.string ByteArray.empty)) := by
  have HC := Lib.hid (noBytes_calls w0 w P limit hB h)
  clear hB h
  have hcv : ∀ W : World, (convert 28 9 (.slice none 0 0)).run Try.prog W = .ok (.string ByteArray.empty) W := fun W => Kd.C_string (P := Try.prog) (src := 28) (dst := 9) (e := 5) (c := 0) (xs := []) (A := none) Try.underlying28 Try.underlying5 Try.underlying9 (Kd.C_nil _ _)
  go_enter Try.func29, Try.ntmps29
  go_wp2_with (first | (go_at_call 28; (refine HC.out.mono ?_; rintro r w1 ⟨rfl, hB, hK⟩; have HB1 := Lib.hid hB; have HK1 := Lib.hid hK; clear hB hK)))
  go_ret
  exact ⟨rfl, HB1.out, HK1.out⟩

theorem noFail_calls (w : World) (P : Option Addr) (c : Int) (h : NoRd w P) :
    Calls Try.prog 33 #[.pointer P, .int .i64 c] w (fun r w' => r = .returned (.tuple #[]) ∧ w = w') := by
  have HN := Lib.hid (noNone_calls w P h)
  clear h
  go_enter Try.func33, Try.ntmps33
  go_wp2_with (first | (go_at_call 58; (refine HN.out.mono ?_; rintro r w' ⟨rfl, rfl⟩)))
  go_end0
  exact ⟨rfl, rfl⟩
theorem noAt_calls (w : World) (P : Option Addr) (h : NoRd w P) :
    Calls Try.prog 32 #[.pointer P] w (fun r w' => r = .returned (.int .i64 0) ∧ w = w') := by
  have HN := Lib.hid (noNone_calls w P h)
  clear h
  go_enter Try.func32, Try.ntmps32
  go_wp2_with (first | (go_at_call 58; (refine HN.out.mono ?_; rintro r w' ⟨rfl, rfl⟩)))
  go_ret
  exact ⟨rfl, rfl⟩
theorem noErr_calls (w : World) (P : Option Addr) (h : NoRd w P) :
    Calls Try.prog 35 #[.pointer P] w (fun r w' => r = .returned (.int .i64 1) ∧ w = w') := by
  have HN := Lib.hid (noNone_calls w P h)
  clear h
  go_enter Try.func35, Try.ntmps35
  go_wp2_with (first | (go_at_call 58; (refine HN.out.mono ?_; rintro r w' ⟨rfl, rfl⟩)))
  go_ret
  exact ⟨rfl, rfl⟩
theorem noEnd_calls (w : World) (P : Option Addr) (h : NoRd w P) :
    Calls Try.prog 23 #[.pointer P] w (fun r w' => r = .returned (.int .i64 1) ∧ ∃ n, w' = w.drewN n) := by
  have HN := Lib.hid (noNone_calls w P h)
  have HE := Lib.hid (noErr_calls w P h)
  clear h
  go_enter Try.func23, Try.ntmps23
  go_wp2_with (first | (go_at_call 35; (refine HE.out.mono ?_; rintro r w' ⟨rfl, rfl⟩)))
  go_quiet (fail)
  go_wp2
  go_ret
  exact ⟨rfl, _, rfl⟩
end Go.Proofs.Ytpbmfdflmmeghaa.Wire
