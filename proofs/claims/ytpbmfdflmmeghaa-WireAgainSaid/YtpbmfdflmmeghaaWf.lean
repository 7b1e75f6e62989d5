import Derived.Test.YtpbmfdflmmeghaaWe
import Derived.Lib.SliceRun
namespace Go.Proofs.Ytpbmfdflmmeghaa.Wire
open Go.RowKit Go.Proofs.YtpbmfdflmmeghaaW.PrintWords Go.Proofs.YtpbmfdflmmeghaaW.PrintLast Go.Proofs.YtpbmfdflmmeghaaW.PrintMore
set_option linter.unusedVariables false
set_option linter.unusedSimpArgs false

theorem R_empty (w : World) (base : Nat) (h : base ≤ w.heap.size) : (Kd.int .u8).R 5 (w.alloc (.cells #[] 5)) base (fun k => w.heap.size ≤ k) (.slice (some ⟨w.heap.size, 0, none⟩) 0 0) [] :=
  Kd.R_of_own (own_lit w base 5 .u8 [] h (by simp)) (fun k hk => by simp [Value.ownBlock] at hk; omega)

theorem clone_calls (w0 w : World) (b : List Int) (A : Option Addr) (c : Nat) (hB : Below w0.heap.size w0 w) (hC : (Kd.int .u8).C w A b.length b) (hl : b.length ≤ 100000000000) :
    Calls Try.prog 40 #[.slice A b.length c] w (RowPost w0 w (fun k => w.heap.size ≤ k) (fun _ => False) b) := by
  have HB := Aside0.mk hB
  have HC := Aside0.mk hC
  clear hB hC
  have hq := fun W : World => Lib.run_eql_slice_nil (P := Try.prog) W 28 5 A b.length c 0 0 Try.underlying28
  cases A with
  | none =>
    have hb : b = [] := by
      rcases Nat.eq_zero_or_pos b.length with h | h
      · exact List.eq_nil_of_length_eq_zero h
      · obtain ⟨_, h, _⟩ := HC.out.2.2 h; cases h
    subst hb
    have hq := fun W : World => Lib.run_eql_slice_nil (P := Try.prog) W 28 5 none 0 c 0 0 Try.underlying28
    go_enter Try.func40, Try.ntmps40
    go_wp2
    go_ret
    exact ⟨_, rfl, Kd.R_nil _ _ _ _ _, HB.out, Kept.refl _ _⟩
  | some ad =>
    go_enter Try.func40, Try.ntmps40
    go_wp2_with (first | ((with_reducible refine gate_builtin (b := .append) (xs := #[.tmp 5, .tmp 6]) rfl ?_); at_builtin; (refine Kd.R_append_rows (Kd.int .u8) (w0 := w0) w0.heap.size rfl (.tmp 5) (.tmp 6) 28 5 (.int .u8 0) 1 rfl Try.underlying28 infoB rfl (by decide) (by decide) (.slice (some ⟨w.heap.size, 0, none⟩) 0 0) [] b (some ad) _ c (fun k => w.heap.size ≤ k) (fun _ => False) rfl rfl ?aO ?aC (fun _ _ hp => hp) (fun _ hk => hk.elim) ?aF ?aB ?aS ?aL ?_; (case aB => exact (by repeat (first | (with_reducible first | exact HB.out | apply below_alloc | apply pw_below_drewN | apply below_drew1) | exact HB.out))); (case aF => exact (fun k hk => Nat.le_trans (by simp) hk)); (case aO => first | exact (R_empty w w0.heap.size HB.out.size) | exact (by (with_reducible repeat (first | apply Kd.R_alloc | apply Kd.R_drewN | apply Kd.R_drew)); exact (R_empty w w0.heap.size HB.out.size))); (case aC => exact (C_none HC.out ((Kept.refl w (fun _ => False)).alloc _))); (case aS => exact (below_size (by repeat (first | (with_reducible first | exact HB.out | apply below_alloc | apply pw_below_drewN | apply below_drew1) | exact HB.out)))); (case aL => exact (by simp; omega)); intro v1 w1 hO1 hB1 hG1 hA1; have HO1 := Lib.hid hO1; have HB1 := Lib.hid hB1; have HG1 := Lib.hid hG1; clear hO1 hB1 hG1 hA1)))
    go_ret
    exact ⟨_, rfl, by have h := HO1.out; rw [List.nil_append] at h; exact h, HB1.out, Kept.of_grown HG1.out ((Kept.refl w (fun _ => False)).alloc _) (fun k hk => by simp [Value.ownBlock] at hk; omega)⟩

/-- What End hands back. -/
def EndPost (w0 w : World) (e : Int) (out : List Int) (r : Ending) (w' : World) : Prop :=
  ∃ v', r = .returned (.tuple #[v', .int .i64 e]) ∧ (Kd.int .u8).R 5 w' w0.heap.size (fun k => w.heap.size ≤ k) v' (if e = 0 then out else []) ∧ Below w0.heap.size w0 w' ∧ Kept w w' (fun _ => False)

theorem end_calls (w0 w : World) (wb : Nat) (ok : Nat → Prop) (v : Value) (e : Int) (out : List Int)
    (hB : Below w0.heap.size w0 w) (hW : WrAt w w0.heap.size wb ok v e out) :
    Calls Try.prog 13 #[.pointer (some ⟨wb, 0, none⟩)] w (EndPost w0 w e out) := by
  have hcell0 : w.cell? ⟨wb, 0, none⟩ = some (.int .i64 e) := (blk_cell hW.blk 0).trans rfl
  have hcell1 : w.cell? ⟨wb, 1, none⟩ = some v := (blk_cell hW.blk 1).trans rfl
  obtain ⟨A1, c1, rfl⟩ := Kd.R_slice hW.own
  have HW := Lib.hid hW
  have HB := Lib.hid hB
  have hle := hW.le
  clear hW hB
  by_cases h : e = 0
  · subst h
    go_enter Try.func13, Try.ntmps13
    go_wp2_with (first | (go_at_call 39; (refine (broken_calls _ _ _ _ hcell0).mono ?_; rintro r w' ⟨rfl, rfl⟩)) | (go_at_call 40; (refine (clone_calls w0 _ out A1 c1 HB.out ((Kd.R_reads' HW.out.own).2.2) (by omega)).mono ?_; rintro e w1 ⟨v1, rfl, hO, hB1, hK⟩; have HO := Aside0.mk hO; have HB1 := Aside0.mk hB1; have HK := Aside0.mk hK; clear hO hB1 hK)))
    go_ret2
    exact ⟨_, rfl, HO.out, HB1.out, HK.out⟩
  · have he : (e != 0) = true := by simpa using h
    have HE := Lib.hid (show (if e = 0 then out else []) = [] by simp [h])
    clear h
    go_enter Try.func13, Try.ntmps13
    go_wp2_with (first | (go_at_call 39; (refine (broken_calls _ _ _ _ hcell0).mono ?_; rintro r w' ⟨rfl, rfl⟩)))
    go_quiet (fail)
    go_wp2
    go_ret2
    exact ⟨_, rfl, by rw [HE.out]; exact Kd.R_nil _ _ _ _ _, pw_below_drewN HB.out _, (Kept.refl _ _).drewN _⟩

theorem WrAt.new {w0 w : World} (h : w0.heap.size ≤ w.heap.size) : WrAt (w.alloc (.cells #[.int .i64 0, .slice none 0 0] 30)) w0.heap.size w.heap.size (fun k => w.heap.size ≤ k) (.slice none 0 0) 0 [] :=
  ⟨h, Nat.le_refl _, blk_new _ _, Kd.R_nil _ _ _ _ _, by simp⟩

/-- What a call leaves of a writer that is new since w. -/
theorem WPost.new {w0 w w1 : World} {wb : Nat} {e' : Int} {out' : List Int} {r : Ending} {w' : World} (hk : Kept w w1 (fun _ => False)) (h : WPost w0 w1 wb (fun k => w.heap.size ≤ k) e' out' r w') :
    ∃ v', r = .returned (.tuple #[]) ∧ WrAt w' w0.heap.size wb (fun k => w.heap.size ≤ k) v' e' out' ∧ Below w0.heap.size w0 w' ∧ Kept w w' (fun _ => False) := by
  obtain ⟨hr, v', hW, hB, hK⟩ := h
  exact ⟨v', hr, hW.mono (fun k hk' => hk'.elim id (fun h => Nat.le_trans hk.1 h)), hB, hk.then_ hK (fun _ h => .inr h)⟩

theorem EndPost.after {w0 w w1 : World} {e : Int} {out : List Int} {r : Ending} {w' : World} (hk : Kept w w1 (fun _ => False)) (h : EndPost w0 w1 e out r w') : EndPost w0 w e out r w' := by
  obtain ⟨v', hr, hO, hB, hK⟩ := h
  exact ⟨v', hr, Kd.R_mono hO (fun k h => Nat.le_trans hk.1 h), hB, hk.then_ hK (fun _ h => h.elim)⟩

def frE (n : Int) (b : List Int) : Int := putE (uintE 0 [] n) (uintO 0 [] n) (grp b.length ++ b)
def frO (n : Int) (b : List Int) : List Int := putO (uintE 0 [] n) (uintO 0 [] n) (grp b.length ++ b)

theorem frame_calls (w0 w : World) (n : Int) (b : List Int) (A : Option Addr) (c : Nat)
    (hB : Below w0.heap.size w0 w) (hC : (Kd.int .u8).C w A b.length b) (hl : b.length ≤ 100000000000) (h0 : -9223372036854775808 ≤ n) (h1 : n ≤ 9223372036854775807) :
    Calls Try.prog 15 #[.int .i64 n, .slice A b.length c] w (EndPost w0 w (frE n b) (frO n b)) := by
  have HB := Aside0.mk hB
  have HC := Aside0.mk hC
  have HK := Aside0.mk ((Kept.refl w (fun _ => False)).alloc (.cells #[.int .i64 0, .slice none 0 0] 30))
  clear hB hC
  go_enter Try.func15, Try.ntmps15
  go_wp2_with (first | (go_at_call 17; (refine (uint_calls w0 _ _ _ _ _ _ _ (below_alloc' HB.out _) (WrAt.new HB.out.size) h0 h1).mono ?_; rintro r w1 hP; obtain ⟨v1, rfl, hW1, hB1, hK1⟩ := hP.new HK.out; have HW1 := Aside0.mk hW1; have HB1 := Aside0.mk hB1; have HK1 := Aside0.mk hK1; clear hP hW1 hB1 hK1)) | (go_at_call 14; (refine (bytes_calls w0 _ _ _ _ _ _ b A c HB1.out HW1.out (C_none HC.out HK1.out) hl).mono ?_; rintro r w2 hP; obtain ⟨v2, rfl, hW1, hB1, hK1⟩ := hP.new HK1.out; have HW2 := Aside0.mk hW1; have HB2 := Aside0.mk hB1; have HK2 := Aside0.mk hK1; clear hP hW1 hB1 hK1)) | (go_at_call 13; (refine (end_calls w0 _ _ _ _ _ _ HB2.out HW2.out).mono ?_; rintro r w3 hP; have HP := Aside0.mk (EndPost.after HK2.out hP); obtain ⟨v3, rfl, hP⟩ := hP; clear hP)))
  go_ret2
  exact HP.out
end Go.Proofs.Ytpbmfdflmmeghaa.Wire
