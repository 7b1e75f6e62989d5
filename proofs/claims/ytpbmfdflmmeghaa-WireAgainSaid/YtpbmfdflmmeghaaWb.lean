import Derived.Test.YtpbmfdflmmeghaaWa
namespace Go.Proofs.Ytpbmfdflmmeghaa.Wire
open Go.RowKit Go.Proofs.YtpbmfdflmmeghaaW.PrintWords Go.Proofs.YtpbmfdflmmeghaaW.PrintLast Go.Proofs.YtpbmfdflmmeghaaW.PrintMore
set_option linter.unusedVariables false
set_option linter.unusedSimpArgs false

theorem infoB : (Try.prog.info? 5).map (fun i => (i.zero, i.size, i.bytes)) = some (some (.int .u8 0), 1, 1) := by kernel_rfl

/-- A writer's cells lie in block wb: the first error e, and what was written. All blocks of it are among ok. -/
structure WrAt (w : World) (base wb : Nat) (ok : Nat → Prop) (v : Value) (e : Int) (out : List Int) : Prop where
  hb : base ≤ wb
  okb : ok wb
  blk : w.heap[wb]? = some (.cells #[.int .i64 e, v] 30 (0, 0))
  own : (Kd.int .u8).R 5 w base ok v out
  le : out.length ≤ 65536

def putE (e : Int) (out b : List Int) : Int := if e = 0 then (if out.length + b.length > 65536 then 7 else 0) else e
def putO (e : Int) (out b : List Int) : List Int := if e = 0 then (if out.length + b.length > 65536 then out else out ++ b) else out

def PutPost (w0 w : World) (wb : Nat) (ok : Nat → Prop) (e : Int) (out b : List Int) (r : Ending) (w' : World) : Prop :=
  r = .returned (.tuple #[]) ∧ ∃ v', WrAt w' w0.heap.size wb (fun k => ok k ∨ w.heap.size ≤ k) v' (putE e out b) (putO e out b) ∧ Below w0.heap.size w0 w' ∧ Kept w w' ok

theorem WrAt.mono {w : World} {base wb : Nat} {ok ok' : Nat → Prop} {v : Value} {e : Int} {out : List Int} (h : WrAt w base wb ok v e out) (hok : ∀ k, ok k → ok' k) : WrAt w base wb ok' v e out :=
  ⟨h.hb, hok _ h.okb, h.blk, Kd.R_mono h.own hok, h.le⟩

theorem WrAt.of_set {w0 w : World} {wb : Nat} {ok : Nat → Prop} {v : Value} {e : Int} {out : List Int} (h : WrAt w w0.heap.size wb ok v e out) (e' : Int) :
    WrAt (w.setCell ⟨wb, 0, none⟩ (.int .i64 e')) w0.heap.size wb (fun k => ok k ∨ w.heap.size ≤ k) v e' out :=
  ⟨h.hb, .inl h.okb, blk_put h.blk 0 _ rfl, Kd.R_mono (Kd.R_set h.own h.blk (by decide) 0 _) (fun _ hk => .inl hk), h.le⟩

theorem WrAt.slice {w : World} {base wb : Nat} {ok : Nat → Prop} {v : Value} {e : Int} {out : List Int} (h : WrAt w base wb ok v e out) : ∃ A c, v = .slice A out.length c := Kd.R_slice h.own

theorem putPost_mk {w0 w w' : World} {wb : Nat} {ok : Nat → Prop} {e : Int} {out b : List Int} {v' : Value} {e' : Int} {out' : List Int} (h : putE e out b = e' ∧ putO e out b = out')
    (hW : WrAt w' w0.heap.size wb (fun k => ok k ∨ w.heap.size ≤ k) v' e' out') (hB : Below w0.heap.size w0 w') (hK : Kept w w' ok) : PutPost w0 w wb ok e out b (.returned (.tuple #[])) w' := by
  obtain ⟨rfl, rfl⟩ := h
  exact ⟨rfl, v', hW, hB, hK⟩

theorem put_calls (w0 w : World) (wb : Nat) (ok : Nat → Prop) (v : Value) (e : Int) (out b : List Int) (A : Option Addr) (c : Nat)
    (hB : Below w0.heap.size w0 w) (hW : WrAt w w0.heap.size wb ok v e out) (hC : (Kd.int .u8).C w A b.length b) (hbl : b.length ≤ 140737488355328) :
    Calls Try.prog 41 #[.pointer (some ⟨wb, 0, none⟩), .slice A b.length c] w (PutPost w0 w wb ok e out b) := by
  have hcell0 : w.cell? ⟨wb, 0, none⟩ = some (.int .i64 e) := (blk_cell hW.blk 0).trans rfl
  have hcell1 : w.cell? ⟨wb, 1, none⟩ = some v := (blk_cell hW.blk 1).trans rfl
  have hfr : w.frozen? ⟨wb, 1, none⟩ = false := blk_frozen hW.blk 1
  obtain ⟨A1, c1, rfl⟩ := Kd.R_slice hW.own
  have hle := hW.le
  have HW := Lib.hid hW
  have HB := Lib.hid hB
  have HC := Lib.hid hC
  clear hW hB hC
  by_cases h : e = 0
  · subst h
    by_cases h2 : out.length + b.length > 65536
    · have h3 : decide ((65536 : Int) < (out.length : Int) + (b.length : Int)) = true := decide_eq_true (by omega)
      have hpe : Hid (putE 0 out b = 7 ∧ putO 0 out b = out) := by simp [Hid, putE, putO, h2]
      clear h2
      go_enter Try.func41, Try.ntmps41
      go_wp2_with (first | (go_at_call 39; refine (broken_calls _ _ _ _ hcell0).mono ?_; rintro r w' ⟨rfl, rfl⟩) | (go_at_call 43; refine (fail_calls _ _ _ _ _ _ _ HW.out.blk rfl).mono ?_; rintro r w' ⟨rfl, rfl⟩))
      go_end0
      exact putPost_mk hpe.out (HW.out.of_set 7) (HB.out.setCell HW.out.hb _) ((Kept.refl _ _).setCell (.inl HW.out.okb) _)
    · have h3 : decide ((65536 : Int) < (out.length : Int) + (b.length : Int)) = false := decide_eq_false (by omega)
      have hpe : Hid (putE 0 out b = 0 ∧ putO 0 out b = out ++ b) := by simp [Hid, putE, putO, h2]
      have h4 : out.length + b.length ≤ 65536 := by omega
      clear h2
      go_enter Try.func41, Try.ntmps41
      go_wp2_with (first | (go_at_call 39; refine (broken_calls _ _ _ _ hcell0).mono ?_; rintro r w' ⟨rfl, rfl⟩) | ((with_reducible refine gate_builtin (b := .append) (xs := #[.tmp 8, .tmp 9]) rfl ?_); at_builtin; refine Kd.R_append_rows (Kd.int .u8) (w0 := w0) w0.heap.size rfl (.tmp 8) (.tmp 9) 28 5 (.int .u8 0) 1 rfl Try.underlying28 infoB rfl (by decide) (by decide) (.slice A1 out.length c1) out b A b.length c (fun k => ok k ∨ w.heap.size ≤ k) (fun _ => False) rfl rfl (Kd.R_mono HW.out.own (fun _ hk => .inl hk)) HC.out (fun _ _ hp => hp) (fun _ hk => hk.elim) (fun _ hk => .inr hk) HB.out HB.out.size (by omega) ?_; intro v1 w1 hO1 hB1 hG1 hA1; obtain ⟨A2, c2, rfl⟩ := Kd.R_slice hO1; have hblk1 := blk_grown HW.out.blk hG1 (Kd.R_ne HW.out.own HW.out.blk (by decide)); have hfr1 := blk_frozen hblk1 1; have hcell11 : w1.cell? ⟨wb, 1, none⟩ = some _ := (blk_cell hblk1 1).trans rfl; have HK1 := Lib.hid hblk1; clear hblk1; have HO1 := Lib.hid hO1; have HB1 := Lib.hid hB1; have HG1 := Lib.hid hG1; have HA1 := Lib.hid hA1; clear hO1 hB1 hG1 hA1))
      go_end0
      exact putPost_mk (v' := .slice A2 (out ++ b).length c2) hpe.out (by rw [← List.length_append]; exact ⟨HW.out.hb, .inl HW.out.okb, blk_put HK1.out 1 _ rfl, Kd.R_set HO1.out HK1.out (by decide) 1 _, by rw [List.length_append]; exact h4⟩)
        (HB1.out.setCell HW.out.hb _) ((Kept.of_grown HG1.out (Kept.refl _ _) (fun k hk => .inl (HW.out.own.1 k hk))).setCell (.inl HW.out.okb) _)
  · have hpe : Hid (putE e out b = e ∧ putO e out b = out) := by simp [Hid, putE, putO, h]
    have he : (e != 0) = true := by simpa using h
    clear h
    go_enter Try.func41, Try.ntmps41
    go_wp2_with (first | (go_at_call 39; refine (broken_calls _ _ _ _ hcell0).mono ?_; rintro r w' ⟨rfl, rfl⟩))
    go_end0
    exact putPost_mk hpe.out (HW.out.mono (fun _ hk => .inl hk)) HB.out (Kept.refl _ _)
end Go.Proofs.Ytpbmfdflmmeghaa.Wire
