import Derived.Test.YtpbmfdflmmeghaaWc
import Derived.Test.YtpbmfdflmmeghaaWKept
namespace Go.Proofs.Ytpbmfdflmmeghaa.Wire
open Go.RowKit Go.Proofs.YtpbmfdflmmeghaaW.PrintWords Go.Proofs.YtpbmfdflmmeghaaW.PrintLast Go.Proofs.YtpbmfdflmmeghaaW.PrintMore
set_option linter.unusedVariables false
set_option linter.unusedSimpArgs false

theorem C_none {k : IntKind} {w w' : World} {A : Option Addr} {n : Nat} {xs : List Int} (h : (Kd.int k).C w A n xs) (hk : Kept w w' (fun _ => False)) : (Kd.int k).C w' A n xs :=
  (Kd.heap_int k).C (fun i hlt => hk.2 i hlt id) h

theorem wrap_len (n : Nat) (h : n ≤ 140737488355328) : IntKind.u64.wrap ((n : Nat) : Int) = (n : Int) := by rw [IntKind.wrap_u64]; omega

set_option maxHeartbeats 1000000 in
theorem refString_calls (w0 w : World) (b : List Int) (A : Option Addr) (c : Nat) (hB : Below w0.heap.size w0 w) (hC : (Kd.int .u8).C w A b.length b) (hl : b.length ≤ 100000000000) :
    Calls Try.prog 26 #[.slice A b.length c] w (RowPost w0 w (fun k => w.heap.size ≤ k) (fun _ => False) (grp b.length ++ b)) := by
  have HB := Aside0.mk hB
  have HC := Aside0.mk hC
  have hg := Lib.hid (grp_len10 (n := b.length) (by omega))
  clear hB hC
  go_enter Try.func26, Try.ntmps26
  go_wp2_with (first | (go_at_call 19; refine (refGroup_calls w _ (by omega) (by omega) w0 HB.out).mono ?_; rintro e w1 ⟨v1, rfl, hO, hB1, hK⟩; have HO := Aside0.mk hO; have HB1 := Aside0.mk hB1; have HK := Aside0.mk hK; clear hO hB1 hK) | ((with_reducible refine gate_builtin (b := .append) (xs := #[.tmp 6, .tmp 7]) rfl ?_); at_builtin; (refine Kd.R_append_rows (Kd.int .u8) (w0 := w0) w0.heap.size rfl (.tmp 6) (.tmp 7) 28 5 (.int .u8 0) 1 rfl Try.underlying28 infoB rfl (by decide) (by decide) v1 (grp (b.length : Int).toNat) b A _ c (fun k => w.heap.size ≤ k) (fun _ => False) rfl rfl ?aO ?aC (fun _ _ hp => hp) (fun _ hk => hk.elim) ?aF ?aB ?aS ?aL ?_; (case aB => exact (by repeat (first | (with_reducible first | exact HB1.out | apply below_alloc | apply pw_below_drewN | apply below_drew1) | exact HB1.out))); (case aF => exact (fun k hk => Nat.le_trans HK.out.1 hk)); (case aO => first | exact HO.out | exact (by (with_reducible repeat (first | apply Kd.R_alloc | apply Kd.R_drewN | apply Kd.R_drew)); exact HO.out)); (case aC => exact (C_none HC.out HK.out)); (case aS => exact (below_size (by repeat (first | (with_reducible first | exact HB1.out | apply below_alloc | apply pw_below_drewN | apply below_drew1) | exact HB1.out)))); (case aL => exact (by have := hg.out; rw [Int.toNat_natCast]; omega)); intro v1 w1 hO1 hB1 hG1 hA1; have HO1 := Lib.hid hO1; have HB1 := Lib.hid hB1; have HG1 := Lib.hid hG1; clear hO1 hB1 hG1 hA1)))
  go_ret
  exact ⟨_, rfl, by rw [show grp b.length = grp (b.length : Int).toNat by rw [Int.toNat_natCast]]; exact HO1.out, HB1.out, (Kept.of_grown HG1.out HK.out (fun k hk => .inr (HO.out.1 k hk)))⟩

def inI64 (x : Int) : Prop := -9223372036854775808 ≤ x ∧ x ≤ 9223372036854775807

theorem zigs_take (l : List Int) (k : Nat) (h : k < l.length) : zigs (l.take (k + 1)) = zigs (l.take k) ++ grp (zig (l.getD k 0)) := by
  induction l generalizing k with
  | nil => simp at h
  | cons a l ih =>
    cases k with
    | zero => simp [zigs]
    | succ k => simp only [List.take_succ_cons, zigs, List.append_assoc]; rw [ih k (by simpa using h)]; simp

theorem zigs_len (l : List Int) (h : ∀ x ∈ l, inI64 x) : (zigs l).length ≤ 10 * l.length := by
  induction l with
  | nil => simp [zigs]
  | cons a l ih =>
    have h1 := ih (fun x hx => h x (List.mem_cons_of_mem _ hx))
    have h2 := h a List.mem_cons_self
    have h3 := grp_len10 (zig_lt a h2.1 h2.2)
    simp only [zigs, List.length_append, List.length_cons]; omega

theorem getD_in {l : List Int} (h : ∀ x ∈ l, inI64 x) {k : Nat} (hk : k < l.length) : inI64 (l.getD k 0) := by
  have : l.getD k 0 = l[k] := by simp [List.getD, hk]
  rw [this]; exact h _ (List.getElem_mem hk)

/-- The cell of an element of a row that is read. -/
theorem C_at {kd : IntKind} {w : World} {A : Option Addr} {n : Nat} {xs : List Int} (h : (Kd.int kd).C w A n xs) (k : Nat) (hk : k < n) : ∃ ad, A = some ad ∧ w.cell? (ad.add k) = some (.int kd (xs.getD k 0)) := by
  obtain ⟨ad, e, hc⟩ := (Kd.reads_of_C (d := (0 : Int)) h).at_ (k : Int) (by omega) (by omega)
  exact ⟨ad, e, by rw [Int.toNat_natCast] at hc; rw [hc]; simp [rdOf]⟩

set_option maxHeartbeats 1000000 in
theorem refInts_calls (w0 w : World) (l : List Int) (A : Option Addr) (c : Nat) (hB : Below w0.heap.size w0 w) (hC : (Kd.int .i64).C w A l.length l) (hr : ∀ x ∈ l, inI64 x) (hl : l.length ≤ 1000000000) :
    Calls Try.prog 38 #[.slice A l.length c] w (RowPost w0 w (fun k => w.heap.size ≤ k) (fun _ => False) (grp l.length ++ zigs l)) := by
  have HB := Aside0.mk hB
  have HC := Aside0.mk hC
  have HR := Aside0.mk hr
  have hg := Lib.hid (grp_len10 (n := l.length) (by omega))
  clear hB hC hr
  go_enter Try.func38, Try.ntmps38
  go_wp2_with (first | (go_at_call 19; refine (refGroup_calls w _ (by omega) (by omega) w0 HB.out).mono ?_; rintro e w1 ⟨v1, rfl, hO, hB1, hK⟩; rw [Int.toNat_natCast] at hO; have HO := Aside0.mk hO; have HB1 := Aside0.mk hB1; have HK := Aside0.mk hK; clear hO hB1 hK))
  go_loopg [3, 4] l.length (fun g v3 v4 w' => ∃ k : Nat, v4 = .int .i64 k ∧ k ≤ l.length ∧ Aside0 (g + k = l.length) ∧ Aside0 ((Kd.int .u8).R 5 w' w0.heap.size (fun k => w.heap.size ≤ k) v3 (grp l.length ++ zigs (l.take k))) ∧ Aside0 (Kept w w' (fun _ => False)) ∧ Aside0 (Below w0.heap.size w0 w'))
  case atStart => exact ⟨0, rfl, Nat.zero_le _, ⟨rfl⟩, ⟨by simpa [zigs] using HO.out⟩, HK, HB1⟩
  case round =>
    obtain ⟨k, rfl, hk, HM, HO, HK, HB⟩ := hrel
    by_cases h : k < l.length
    · have c1 : decide ((k : Int) < (l.length : Int)) = true := decide_eq_true (by omega)
      obtain ⟨ad, hA, hcell⟩ := C_at (C_none HC.out HK.out) k h
      subst hA
      have hin := getD_in HR.out h
      have HT := Lib.hid (zigs_take l k h)
      generalize l.getD k 0 = x at hcell hin HT
      have h1 := hin.1
      have h2 := hin.2
      have HL := Lib.hid (zigs_len (l.take k) (fun x hx => HR.out x (List.mem_of_mem_take hx)))
      clear hin
      go_wp2_with (first | (go_at_call 20; refine (refFold_calls _ _ h1 h2).mono ?_; rintro e w1 ⟨rfl, rfl⟩) | (go_at_call 19; refine (refGroup_calls _ _ (by omega) (by have := zig_lt _ h1 h2; omega) w0 (by repeat (first | (with_reducible first | exact HB.out | apply below_alloc | apply pw_below_drewN | apply below_drew1) | exact HB.out))).mono ?_; rintro e w2 ⟨v2, rfl, hO, hB1, hK⟩; rw [Int.toNat_natCast] at hO; obtain ⟨A2, c2, rfl⟩ := Kd.R_slice hO; have HO2 := Aside0.mk hO; have HB2 := Aside0.mk hB1; have HK2 := Aside0.mk hK; clear hO hB1 hK) | ((with_reducible refine gate_builtin (b := .append) (xs := #[.tmp 15, .tmp 21]) rfl ?_); at_builtin; (refine Kd.R_append_rows (Kd.int .u8) (w0 := w0) w0.heap.size rfl (.tmp 15) (.tmp 21) 28 5 (.int .u8 0) 1 rfl Try.underlying28 infoB rfl (by decide) (by decide) u3 (grp l.length ++ zigs (l.take k)) (grp (zig x)) A2 _ c2 (fun k => w.heap.size ≤ k) (fun _ => False) rfl rfl ?aO ?aC (fun _ _ hp => hp) (fun _ hk => hk.elim) ?aF ?aB ?aS ?aL ?_; (case aB => exact (by repeat (first | (with_reducible first | exact HB2.out | apply below_alloc | apply pw_below_drewN | apply below_drew1) | exact HB2.out))); (case aF => exact (fun k hk => Nat.le_trans HK.out.1 (Nat.le_trans HK2.out.1 hk))); (case aO => first | exact (Kd.R_kept HO.out HK2.out (fun _ _ => id)) | exact (by (with_reducible repeat (first | apply Kd.R_alloc | apply Kd.R_drewN | apply Kd.R_drew)); exact (Kd.R_kept HO.out HK2.out (fun _ _ => id)))); (case aC => exact ((Kd.R_reads' HO2.out).2.2)); (case aS => exact (below_size (by repeat (first | (with_reducible first | exact HB2.out | apply below_alloc | apply pw_below_drewN | apply below_drew1) | exact HB2.out)))); (case aL => exact (by have := hg.out; have := HL.out; have := grp_len10 (zig_lt x h1 h2); rw [List.length_append]; rw [List.length_take] at *; omega)); intro v1 w1 hO1 hB1 hG1 hA1; have HO1 := Lib.hid hO1; have HB1 := Lib.hid hB1; have HG1 := Lib.hid hG1; clear hO1 hB1 hG1 hA1)))
      go_roundg (l.length - (k + 1))
      case measure => have := HM.out; omega
      case rel => exact ⟨k + 1, by go_num, by omega, ⟨by omega⟩, ⟨by rw [HT.out, ← List.append_assoc]; exact HO1.out⟩, ⟨Kept.of_grown HG1.out (HK.out.then_ HK2.out (fun _ hf => hf.elim)) (fun k hk => .inr (HO.out.1 k hk))⟩, ⟨HB1.out⟩⟩
    · have c1 : decide ((k : Int) < (l.length : Int)) = false := decide_eq_false (by omega)
      go_wp2
      go_ret
      exact ⟨_, rfl, by have e : l.take k = l := List.take_of_length_le (by omega); rw [e] at HO; exact HO.out, HB.out, HK.out⟩
end Go.Proofs.Ytpbmfdflmmeghaa.Wire
