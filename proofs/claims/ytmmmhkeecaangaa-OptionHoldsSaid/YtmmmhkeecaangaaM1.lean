/- Contracts of the wire package's calls: what each leaves. Conditions: those that each theorem states. -/
import Derived.Test.YtmmmhkeecaangaaProg
import Derived.Test.YtmmmhkeecaangaaWWords
import Derived.Test.YtmmmhkeecaangaaWLast
import Derived.Test.YtmmmhkeecaangaaWMore
import Derived.Below
import Derived.WalkKit
import Derived.KernelRfl
import Derived.RowKit3
import Derived.Deep.LoopGhost
import Derived.Deep.QuietTactic
import Derived.BigQuiet
import Derived.WideLaws
import Derived.Deep.DeepCutAuto
import Derived.Deep.CutBlock
import Derived.Deep.RegionHeld3
import Derived.Lib.Hide
import Derived.RegionTactic
import Derived.Outline
import Derived.Laws.BitsAllLaws
import Derived.Test.YtmmmhkeecaangaaWKept
import Derived.WalkSpells
import Derived.Lib.SliceRun
import Derived.WalkLawsBesides
import Derived.Laws.Shifts
import Derived.StillTailTactics
import Derived.Defers
import Derived.Recover
import Derived.Laws.Pointers
namespace Go.Proofs.Ytmmmhkeecaangaa.Wire
open Go.RowKit Go.Proofs.YtmmmhkeecaangaaW.PrintWords Go.Proofs.YtmmmhkeecaangaaW.PrintLast Go.Proofs.YtmmmhkeecaangaaW.PrintMore
set_option linter.unusedVariables false
set_option linter.unusedSimpArgs false

/-- 'broken' at a status cell that holds e. -/
theorem broken_calls (b o : Nat) (e : Int) (w : World) (hc : w.cell? ⟨b, o, none⟩ = some (.int .i64 e)) :
    Calls Try.prog 60 #[.pointer (some ⟨b, o, none⟩)] w fun r w' => r = .returned (.bool (e != 0)) ∧ w = w' := by
  go_enter Try.func60, Try.ntmps60
  go_wp2
  go_ret
  exact ⟨rfl, rfl⟩


theorem fail_calls (b : Nat) (cs : Array Value) (t : TypeId) (o : Nat) (e c : Int) (w : World) (hb : w.heap[b]? = some (.cells cs t (0, 0))) (hc : cs[o]? = some (.int .i64 e)) :
    Calls Try.prog 57 #[.pointer (some ⟨b, o, none⟩), .int .i64 c] w fun r w' => r = .returned (.tuple #[]) ∧ (if e = 0 then w' = w.setCell ⟨b, o, none⟩ (.int .i64 c) else w' = w) := by
  have hcell : w.cell? ⟨b, o, none⟩ = some (.int .i64 e) := (blk_cell hb o).trans hc
  have hfr : w.frozen? ⟨b, o, none⟩ = false := blk_frozen hb o
  by_cases h : e = 0
  · subst h
    go_enter Try.func57, Try.ntmps57
    go_wp2
    go_end0
    exact ⟨rfl, rfl⟩
  · have h2 : (e == 0) = false := by simpa using h
    simp only [if_neg h]
    go_enter Try.func57, Try.ntmps57
    go_wp2
    go_end0
    exact ⟨rfl, rfl⟩

end Go.Proofs.Ytmmmhkeecaangaa.Wire
namespace Go.Proofs.Ytmmmhkeecaangaa.Wire
open Go.RowKit Go.Proofs.YtmmmhkeecaangaaW.PrintWords Go.Proofs.YtmmmhkeecaangaaW.PrintLast Go.Proofs.YtmmmhkeecaangaaW.PrintMore
set_option linter.unusedVariables false
set_option linter.unusedSimpArgs false

theorem infoB : (Try.prog.info? 5).map (fun i => (i.zero, i.size, i.bytes)) = some (some (.int .u8 0), 1, 1) := by kernel_rfl

/-- A writer's cells lie in block wb: the first error e, and what was written. All blocks of it are among ok. -/
structure WrAt (w : World) (base wb : Nat) (ok : Nat → Prop) (v : Value) (e : Int) (out : List Int) : Prop where
  hb : base ≤ wb
  okb : ok wb
  blk : w.heap[wb]? = some (.cells #[.int .i64 e, v] 73 (0, 0))
  own : (Kd.int .u8).R 5 w base ok v out
  le : out.length ≤ 65536

def putE (e : Int) (out b : List Int) : Int := if e = 0 then (if out.length + b.length > 65536 then 7 else 0) else e
def putO (e : Int) (out b : List Int) : List Int := if e = 0 then (if out.length + b.length > 65536 then out else out ++ b) else out

def PutPost (w0 w : World) (wb : Nat) (ok : Nat → Prop) (e : Int) (out b : List Int) (r : Ending) (w' : World) : Prop :=
  r = .returned (.tuple #[]) ∧ ∃ v', WrAt w' w0.heap.size wb (fun k => ok k ∨ w.heap.size ≤ k) v' (putE e out b) (putO e out b) ∧ Below w0.heap.size w0 w' ∧ Kept w w' ok

theorem WrAt.mono {w : World} {base wb : Nat} {ok ok' : Nat → Prop} {v : Value} {e : Int} {out : List Int} (h : WrAt w base wb ok v e out) (hok : ∀ k, ok k → ok' k) : WrAt w base wb ok' v e out :=
  ⟨h.hb, hok _ h.okb, h.blk, Kd.R_mono h.own hok, h.le⟩

theorem WrAt.of_set {w0 w : World} {wb : Nat} {ok : Nat → Prop} {v : Value} {e : Int} {out : List Int} (h : WrAt w w0.heap.size wb ok v e out) (e' : Int) :
    WrAt (w.setCell ⟨wb, 0, none⟩ (.int .i64 e')) w0.heap.size wb (fun k => ok k ∨ w.heap.size ≤ k) v e' out :=
  ⟨h.hb, .inl h.okb, blk_put h.blk 0 _ rfl, Kd.R_mono (Kd.R_set h.own h.blk (by decide) 0 _) (fun _ hk => .inl hk), h.le⟩

theorem WrAt.slice {w : World} {base wb : Nat} {ok : Nat → Prop} {v : Value} {e : Int} {out : List Int} (h : WrAt w base wb ok v e out) : ∃ A c, v = .slice A out.length c := Kd.R_slice h.own

theorem putPost_mk {w0 w w' : World} {wb : Nat} {ok : Nat → Prop} {e : Int} {out b : List Int} {v' : Value} {e' : Int} {out' : List Int} (h : putE e out b = e' ∧ putO e out b = out')
    (hW : WrAt w' w0.heap.size wb (fun k => ok k ∨ w.heap.size ≤ k) v' e' out') (hB : Below w0.heap.size w0 w') (hK : Kept w w' ok) : PutPost w0 w wb ok e out b (.returned (.tuple #[])) w' := by
  obtain ⟨rfl, rfl⟩ := h
  exact ⟨rfl, v', hW, hB, hK⟩

theorem put_calls (w0 w : World) (wb : Nat) (ok : Nat → Prop) (v : Value) (e : Int) (out b : List Int) (A : Option Addr) (c : Nat)
    (hB : Below w0.heap.size w0 w) (hW : WrAt w w0.heap.size wb ok v e out) (hC : (Kd.int .u8).C w A b.length b) (hbl : b.length ≤ 140737488355328) :
    Calls Try.prog 58 #[.pointer (some ⟨wb, 0, none⟩), .slice A b.length c] w (PutPost w0 w wb ok e out b) := by
  have hcell0 : w.cell? ⟨wb, 0, none⟩ = some (.int .i64 e) := (blk_cell hW.blk 0).trans rfl
  have hcell1 : w.cell? ⟨wb, 1, none⟩ = some v := (blk_cell hW.blk 1).trans rfl
  have hfr : w.frozen? ⟨wb, 1, none⟩ = false := blk_frozen hW.blk 1
  obtain ⟨A1, c1, rfl⟩ := Kd.R_slice hW.own
  have hle := hW.le
  have HW := Lib.hid hW
  have HB := Lib.hid hB
  have HC := Lib.hid hC
  clear hW hB hC
  by_cases h : e = 0
  · subst h
    by_cases h2 : out.length + b.length > 65536
    · have h3 : decide ((65536 : Int) < (out.length : Int) + (b.length : Int)) = true := decide_eq_true (by omega)
      have hpe : Hid (putE 0 out b = 7 ∧ putO 0 out b = out) := by simp [Hid, putE, putO, h2]
      clear h2
      go_enter Try.func58, Try.ntmps58
      go_wp2_with (first | (go_at_call 60; refine (broken_calls _ _ _ _ hcell0).mono ?_; rintro r w' ⟨rfl, rfl⟩) | (go_at_call 57; refine (fail_calls _ _ _ _ _ _ _ HW.out.blk rfl).mono ?_; rintro r w' ⟨rfl, rfl⟩))
      go_end0
      exact putPost_mk hpe.out (HW.out.of_set 7) (HB.out.setCell HW.out.hb _) ((Kept.refl _ _).setCell (.inl HW.out.okb) _)
    · have h3 : decide ((65536 : Int) < (out.length : Int) + (b.length : Int)) = false := decide_eq_false (by omega)
      have hpe : Hid (putE 0 out b = 0 ∧ putO 0 out b = out ++ b) := by simp [Hid, putE, putO, h2]
      have h4 : out.length + b.length ≤ 65536 := by omega
      clear h2
      go_enter Try.func58, Try.ntmps58
      go_wp2_with (first | (go_at_call 60; refine (broken_calls _ _ _ _ hcell0).mono ?_; rintro r w' ⟨rfl, rfl⟩) | ((with_reducible refine gate_builtin (b := .append) (xs := #[.tmp 8, .tmp 9]) rfl ?_); at_builtin; refine Kd.R_append_rows (Kd.int .u8) (w0 := w0) w0.heap.size rfl (.tmp 8) (.tmp 9) 48 5 (.int .u8 0) 1 rfl Try.underlying48 infoB rfl (by decide) (by decide) (.slice A1 out.length c1) out b A b.length c (fun k => ok k ∨ w.heap.size ≤ k) (fun _ => False) rfl rfl (Kd.R_mono HW.out.own (fun _ hk => .inl hk)) HC.out (fun _ _ hp => hp) (fun _ hk => hk.elim) (fun _ hk => .inr hk) HB.out HB.out.size (by omega) ?_; intro v1 w1 hO1 hB1 hG1 hA1; obtain ⟨A2, c2, rfl⟩ := Kd.R_slice hO1; have hblk1 := blk_grown HW.out.blk hG1 (Kd.R_ne HW.out.own HW.out.blk (by decide)); have hfr1 := blk_frozen hblk1 1; have hcell11 : w1.cell? ⟨wb, 1, none⟩ = some _ := (blk_cell hblk1 1).trans rfl; have HK1 := Lib.hid hblk1; clear hblk1; have HO1 := Lib.hid hO1; have HB1 := Lib.hid hB1; have HG1 := Lib.hid hG1; have HA1 := Lib.hid hA1; clear hO1 hB1 hG1 hA1))
      go_end0
      exact putPost_mk (v' := .slice A2 (out ++ b).length c2) hpe.out (by rw [← List.length_append]; exact ⟨HW.out.hb, .inl HW.out.okb, blk_put HK1.out 1 _ rfl, Kd.R_set HO1.out HK1.out (by decide) 1 _, by rw [List.length_append]; exact h4⟩)
        (HB1.out.setCell HW.out.hb _) ((Kept.of_grown HG1.out (Kept.refl _ _) (fun k hk => .inl (HW.out.own.1 k hk))).setCell (.inl HW.out.okb) _)
  · have hpe : Hid (putE e out b = e ∧ putO e out b = out) := by simp [Hid, putE, putO, h]
    have he : (e != 0) = true := by simpa using h
    clear h
    go_enter Try.func58, Try.ntmps58
    go_wp2_with (first | (go_at_call 60; refine (broken_calls _ _ _ _ hcell0).mono ?_; rintro r w' ⟨rfl, rfl⟩))
    go_end0
    exact putPost_mk hpe.out (HW.out.mono (fun _ hk => .inl hk)) HB.out (Kept.refl _ _)
end Go.Proofs.Ytmmmhkeecaangaa.Wire
namespace Go.Proofs.Ytmmmhkeecaangaa.Wire
open Go.RowKit Go.Proofs.YtmmmhkeecaangaaW.PrintWords Go.Proofs.YtmmmhkeecaangaaW.PrintLast Go.Proofs.YtmmmhkeecaangaaW.PrintMore
set_option linter.unusedVariables false
set_option linter.unusedSimpArgs false

/-- The group encoding of a number. -/
def grp (n : Nat) : List Int := if n < 128 then [(n : Int)] else ((n % 128 + 128 : Nat) : Int) :: grp (n / 128)
termination_by n
decreasing_by omega

theorem grp_small {n : Nat} (h : n < 128) : grp n = [(n : Int)] := by rw [grp, if_pos h]
theorem grp_big {n : Nat} (h : ¬ n < 128) : grp n = ((n % 128 + 128 : Nat) : Int) :: grp (n / 128) := by rw [grp, if_neg h]

theorem grp_len (m : Nat) : ∀ n, n < 128 ^ (m + 1) → (grp n).length ≤ m + 1 := by
  induction m with
  | zero => intro n h; rw [grp_small (by simpa using h)]; simp
  | succ m ih =>
    intro n h
    by_cases h1 : n < 128
    · rw [grp_small h1]; simp
    · rw [grp_big h1, List.length_cons]
      have := ih (n / 128) (by rw [Nat.div_lt_iff_lt_mul (by omega)]; rw [Nat.pow_succ] at h; exact h)
      omega
theorem grp_len10 {n : Nat} (h : n < 18446744073709551616) : (grp n).length ≤ 10 := grp_len 9 n (Nat.lt_of_lt_of_le h (by decide))
theorem grp_pos (n : Nat) : 0 < (grp n).length := by
  by_cases h : n < 128
  · rw [grp_small h]; simp
  · rw [grp_big h]; simp

theorem grp_byte (n : Nat) : ∀ x ∈ grp n, 0 ≤ x ∧ x < 256 := by
  induction n using Nat.strongRecOn with
  | ind n ih =>
    by_cases h : n < 128
    · rw [grp_small h]; intro x hx; simp at hx; omega
    · rw [grp_big h]; intro x hx
      rcases List.mem_cons.1 hx with rfl | hx
      · omega
      · exact ih (n / 128) (by omega) x hx

theorem or128 : ∀ a, a < 256 → a ||| 128 = a % 128 + 128 := by decide +kernel

theorem or_byte (n : Nat) : Go.bits .or .u8 ((n : Int) % 256) 128 = ((n % 128 + 128 : Nat) : Int) := by
  have := u8_or_nat (n % 256) 128 (by omega) (by omega)
  rw [or128 _ (by omega), show n % 256 % 128 = n % 128 by omega] at this
  rw [← this]; simp

/-- The number that encodes a signed number. -/
def zig (a : Int) : Nat := if 0 ≤ a then (2 * a).toNat else (-2 * a - 1).toNat

theorem xor_ones (x : Nat) (hx : x < 18446744073709551616) : x ^^^ 18446744073709551615 = 18446744073709551615 - x := by
  have h : (BitVec.ofNat 64 x ^^^ BitVec.allOnes 64).toNat = 18446744073709551615 - x := by
    rw [BitVec.xor_allOnes, BitVec.toNat_not, BitVec.toNat_ofNat, Nat.mod_eq_of_lt (by omega)]
  rw [BitVec.toNat_xor, BitVec.toNat_ofNat, Nat.mod_eq_of_lt (by omega), BitVec.toNat_allOnes] at h
  exact h

theorem fold_xor (a : Int) (h0 : -9223372036854775808 ≤ a) (h1 : a ≤ 9223372036854775807) : Go.bits .xor .u64 (IntKind.u64.wrap ((IntKind.u64.wrap a) * 2)) (IntKind.u64.wrap (a / 9223372036854775808)) = (zig a : Int) := by
  by_cases h : 0 ≤ a
  · have e1 : IntKind.u64.wrap (a / 9223372036854775808) = ((0 : Nat) : Int) := by rw [IntKind.wrap_u64]; omega
    have e2 : IntKind.u64.wrap ((IntKind.u64.wrap a) * 2) = ((2 * a).toNat : Int) := by simp only [IntKind.wrap_u64]; omega
    rw [e1, e2, u64_xor_nat _ _ (by omega) (by omega), Nat.xor_zero, zig, if_pos h]
  · have e1 : IntKind.u64.wrap (a / 9223372036854775808) = ((18446744073709551615 : Nat) : Int) := by rw [IntKind.wrap_u64]; omega
    have e2 : IntKind.u64.wrap ((IntKind.u64.wrap a) * 2) = ((2 * a + 18446744073709551616).toNat : Int) := by simp only [IntKind.wrap_u64]; omega
    rw [e1, e2, u64_xor_nat _ _ (by omega) (by omega), xor_ones _ (by omega), zig, if_neg h]
    omega

theorem fold_ref_pos (a : Int) (h : 0 ≤ a) (h1 : a ≤ 9223372036854775807) : IntKind.u64.wrap ((IntKind.u64.wrap a) * 2) = (zig a : Int) := by
  rw [zig, if_pos h]; simp only [IntKind.wrap_u64]; omega
theorem fold_ref_neg (a : Int) (h : a < 0) (h0 : -9223372036854775808 ≤ a) : IntKind.u64.wrap ((IntKind.u64.wrap ((IntKind.u64.wrap (wrap64 (-(wrap64 (a + 1))))) * 2)) + 1) = (zig a : Int) := by
  rw [zig, if_neg (by omega)]; simp only [IntKind.wrap_u64]; unfold wrap64; omega

theorem zig_lt (a : Int) (h0 : -9223372036854775808 ≤ a) (h1 : a ≤ 9223372036854775807) : zig a < 18446744073709551616 := by
  unfold zig; split <;> omega

/-- The encoding of a list of signed numbers, without their number. -/
def zigs : List Int → List Int
  | [] => []
  | a :: l => grp (zig a) ++ zigs l

end Go.Proofs.Ytmmmhkeecaangaa.Wire
namespace Go.Proofs.Ytmmmhkeecaangaa.Wire
open Go.RowKit Go.Proofs.YtmmmhkeecaangaaW.PrintWords Go.Proofs.YtmmmhkeecaangaaW.PrintLast Go.Proofs.YtmmmhkeecaangaaW.PrintMore
set_option linter.unusedVariables false
set_option linter.unusedSimpArgs false

/-- A row of bytes is handed back: it stands in blocks of ok; what was there is kept but for S. -/
def RowPost (w0 w : World) (ok S : Nat → Prop) (l : List Int) (r : Ending) (w' : World) : Prop :=
  ∃ v', r = .returned v' ∧ (Kd.int .u8).R 5 w' w0.heap.size ok v' l ∧ Below w0.heap.size w0 w' ∧ Kept w w' S

set_option maxHeartbeats 1000000 in
theorem group_calls (w0 w : World) (ok : Nat → Prop) (u : Value) (pre : List Int) (n : Int) (h0 : 0 ≤ n) (hn : n < 18446744073709551616)
    (hB : Below w0.heap.size w0 w) (hO : (Kd.int .u8).R 5 w w0.heap.size ok u pre) (hl : pre.length ≤ 100000000000) :
    Calls Try.prog 59 #[u, .int .u64 n] w (RowPost w0 w (fun k => ok k ∨ w.heap.size ≤ k) ok (pre ++ grp n.toNat)) := by
  obtain ⟨n, rfl⟩ := Int.eq_ofNat_of_zero_le h0
  rw [Int.toNat_natCast]
  have hlen := grp_len10 (n := n) (by omega)
  have HO := Aside0.mk (Kd.R_mono (ok' := fun k => ok k ∨ w.heap.size ≤ k) hO (fun _ hk => .inl hk))
  have HO0 := Aside0.mk hO.1
  have HB := Aside0.mk hB
  have HK := Aside0.mk (Kept.refl w ok)
  have HL := Aside0.mk (show (pre ++ grp n).length ≤ 100000000010 by rw [List.length_append]; omega)
  have hn2 : n < 18446744073709551616 := by omega
  generalize hfin : pre ++ grp n = fin at HL ⊢
  have HE := Aside0.mk hfin
  clear hfin hlen hl hO hB hn h0
  go_enter Try.func59, Try.ntmps59
  go_wp2
  go_loopg [0, 1] n (fun g v0 v1 w' => ∃ (m : Nat) (xs : List Int), v1 = .int .u64 m ∧ Aside0 (xs ++ grp m = fin) ∧ m < 18446744073709551616 ∧ Aside0 (m = g) ∧ Aside0 ((Kd.int .u8).R 5 w' w0.heap.size (fun k => ok k ∨ w.heap.size ≤ k) v0 xs) ∧ Aside0 (Kept w w' ok) ∧ Aside0 (Below w0.heap.size w0 w'))
  case atStart => exact ⟨n, pre, rfl, HE, hn2, ⟨rfl⟩, ⟨(by (with_reducible repeat (first | apply Kd.R_alloc | apply Kd.R_drewN | apply Kd.R_drew)); exact HO.out)⟩, ⟨(by repeat (first | (with_reducible first | exact HK.out | apply Kept.alloc | apply Kept.drewN | apply Kept.drew) | exact HK.out))⟩, ⟨(by repeat (first | (with_reducible first | exact HB.out | apply below_alloc | apply pw_below_drewN | apply below_drew1) | exact HB.out))⟩⟩
  case round =>
    obtain ⟨m, xs, rfl, HE, hm, HM, HO, HK, HB⟩ := hrel
    have HX := Aside0.mk (show xs.length ≤ 100000000010 by have := HL.out; rw [← HE.out, List.length_append] at this; omega)
    by_cases h : m < 128
    · have c1 : decide ((128 : Int) ≤ (m : Int)) = false := decide_eq_false (by omega)
      have HG := Lib.hid (grp_small h)
      clear h
      go_wp2_with (first | ((with_reducible refine gate_builtin (b := .append) (xs := #[.tmp 15, .tmp 18]) rfl ?_); at_builtin; (refine Kd.R_append (Kd.int .u8) (w0 := w0) w0.heap.size rfl (.tmp 15) (.tmp 18) 48 5 (.int .u8 0) 1 rfl Try.underlying48 infoB rfl (by decide) (by omega) u0 xs ((m : Int) % 256) [.int .u8 ((m : Int) % 256)] (fun k => ok k ∨ w.heap.size ≤ k) (fun _ => False) rfl rfl ?aP (fun _ hk => hk.elim) ?aF ?aO ?aB ?aS ?aL ?_; (case aP => exact rfl); (case aB => exact (by repeat (first | (with_reducible first | exact HB.out | apply below_alloc | apply pw_below_drewN | apply below_drew1) | exact HB.out))); (case aF => exact (fun k hk => .inr (Nat.le_trans HK.out.1 hk))); (case aO => first | exact HO.out | exact (by (with_reducible repeat (first | apply Kd.R_alloc | apply Kd.R_drewN | apply Kd.R_drew)); exact HO.out)); (case aS => exact (below_size (by repeat (first | (with_reducible first | exact HB.out | apply below_alloc | apply pw_below_drewN | apply below_drew1) | exact HB.out)))); (case aL => exact (by have := HX.out; omega)); intro v1 w1 hO1 hB1 hG1 hA1; have HO1 := Lib.hid hO1; have HB1 := Lib.hid hB1; have HG1 := Lib.hid hG1; clear hO1 hB1 hG1 hA1)))
      go_ret
      exact ⟨_, rfl, by
        have e : xs ++ [(m : Int) % 256] = fin := by rw [← HE.out, HG.out, Int.emod_eq_of_lt (by omega) (by have := of_decide_eq_false c1; omega)]
        rw [← e]; exact HO1.out, HB1.out, Kept.of_grown HG1.out HK.out HO.out.1⟩
    · have c1 : decide ((128 : Int) ≤ (m : Int)) = true := decide_eq_true (by omega)
      have HG := Lib.hid (grp_big h)
      clear h
      have hor := Lib.hid (or_byte m)
      go_wp2_with (first | ((with_reducible refine gate_builtin (b := .append) (xs := #[.tmp 9, .tmp 13]) rfl ?_); at_builtin; (refine Kd.R_append (Kd.int .u8) (w0 := w0) w0.heap.size rfl (.tmp 9) (.tmp 13) 48 5 (.int .u8 0) 1 rfl Try.underlying48 infoB rfl (by decide) (by omega) u0 xs (Go.bits .or .u8 ((m : Int) % 256) 128) [.int .u8 (Go.bits .or .u8 ((m : Int) % 256) 128)] (fun k => ok k ∨ w.heap.size ≤ k) (fun _ => False) rfl rfl ?aP (fun _ hk => hk.elim) ?aF ?aO ?aB ?aS ?aL ?_; (case aP => exact rfl); (case aB => exact (by repeat (first | (with_reducible first | exact HB.out | apply below_alloc | apply pw_below_drewN | apply below_drew1) | exact HB.out))); (case aF => exact (fun k hk => .inr (Nat.le_trans HK.out.1 hk))); (case aO => first | exact HO.out | exact (by (with_reducible repeat (first | apply Kd.R_alloc | apply Kd.R_drewN | apply Kd.R_drew)); exact HO.out)); (case aS => exact (below_size (by repeat (first | (with_reducible first | exact HB.out | apply below_alloc | apply pw_below_drewN | apply below_drew1) | exact HB.out)))); (case aL => exact (by have := HX.out; omega)); intro v1 w1 hO1 hB1 hG1 hA1; have HO1 := Lib.hid hO1; have HB1 := Lib.hid hB1; have HG1 := Lib.hid hG1; clear hO1 hB1 hG1 hA1)))
      go_roundg (m / 128)
      case measure => have := HM.out; have := of_decide_eq_true c1; omega
      case rel => exact ⟨m / 128, xs ++ [((m % 128 + 128 : Nat) : Int)], by simp, ⟨by rw [← HE.out, HG.out]; simp⟩, by omega, ⟨rfl⟩, ⟨by rw [← hor.out]; exact HO1.out⟩, ⟨Kept.of_grown HG1.out HK.out HO.out.1⟩, ⟨HB1.out⟩⟩

end Go.Proofs.Ytmmmhkeecaangaa.Wire
namespace Go.Proofs.Ytmmmhkeecaangaa.Wire
open Go.RowKit Go.Proofs.YtmmmhkeecaangaaW.PrintWords Go.Proofs.YtmmmhkeecaangaaW.PrintLast Go.Proofs.YtmmmhkeecaangaaW.PrintMore
set_option linter.unusedVariables false
set_option linter.unusedSimpArgs false

theorem C_none {k : IntKind} {w w' : World} {A : Option Addr} {n : Nat} {xs : List Int} (h : (Kd.int k).C w A n xs) (hk : Kept w w' (fun _ => False)) : (Kd.int k).C w' A n xs :=
  (Kd.heap_int k).C (fun i hlt => hk.2 i hlt id) h

theorem wrap_len (n : Nat) (h : n ≤ 140737488355328) : IntKind.u64.wrap ((n : Nat) : Int) = (n : Int) := by rw [IntKind.wrap_u64]; omega

def inI64 (x : Int) : Prop := -9223372036854775808 ≤ x ∧ x ≤ 9223372036854775807

theorem zigs_take (l : List Int) (k : Nat) (h : k < l.length) : zigs (l.take (k + 1)) = zigs (l.take k) ++ grp (zig (l.getD k 0)) := by
  induction l generalizing k with
  | nil => simp at h
  | cons a l ih =>
    cases k with
    | zero => simp [zigs]
    | succ k => simp only [List.take_succ_cons, zigs, List.append_assoc]; rw [ih k (by simpa using h)]; simp

theorem zigs_len (l : List Int) (h : ∀ x ∈ l, inI64 x) : (zigs l).length ≤ 10 * l.length := by
  induction l with
  | nil => simp [zigs]
  | cons a l ih =>
    have h1 := ih (fun x hx => h x (List.mem_cons_of_mem _ hx))
    have h2 := h a List.mem_cons_self
    have h3 := grp_len10 (zig_lt a h2.1 h2.2)
    simp only [zigs, List.length_append, List.length_cons]; omega

theorem getD_in {l : List Int} (h : ∀ x ∈ l, inI64 x) {k : Nat} (hk : k < l.length) : inI64 (l.getD k 0) := by
  have : l.getD k 0 = l[k] := by simp [List.getD, hk]
  rw [this]; exact h _ (List.getElem_mem hk)

/-- The cell of an element of a row that is read. -/
theorem C_at {kd : IntKind} {w : World} {A : Option Addr} {n : Nat} {xs : List Int} (h : (Kd.int kd).C w A n xs) (k : Nat) (hk : k < n) : ∃ ad, A = some ad ∧ w.cell? (ad.add k) = some (.int kd (xs.getD k 0)) := by
  obtain ⟨ad, e, hc⟩ := (Kd.reads_of_C (d := (0 : Int)) h).at_ (k : Int) (by omega) (by omega)
  exact ⟨ad, e, by rw [Int.toNat_natCast] at hc; rw [hc]; simp [rdOf]⟩

end Go.Proofs.Ytmmmhkeecaangaa.Wire
namespace Go.Proofs.Ytmmmhkeecaangaa.Wire
open Go.RowKit Go.Proofs.YtmmmhkeecaangaaW.PrintWords Go.Proofs.YtmmmhkeecaangaaW.PrintLast Go.Proofs.YtmmmhkeecaangaaW.PrintMore
set_option linter.unusedVariables false
set_option linter.unusedSimpArgs false

def WPost (w0 w : World) (wb : Nat) (ok : Nat → Prop) (e' : Int) (out' : List Int) (r : Ending) (w' : World) : Prop :=
  r = .returned (.tuple #[]) ∧ ∃ v', WrAt w' w0.heap.size wb (fun k => ok k ∨ w.heap.size ≤ k) v' e' out' ∧ Below w0.heap.size w0 w' ∧ Kept w w' ok

theorem WrAt.kept {w w' : World} {base wb : Nat} {ok S : Nat → Prop} {v : Value} {e : Int} {out : List Int} (h : WrAt w base wb ok v e out) (hk : Kept w w' S) (hs : ∀ k, ok k → ¬ S k) : WrAt w' base wb ok v e out :=
  ⟨h.hb, h.okb, blk_kept h.blk hk (hs _ h.okb), Kd.R_kept h.own hk hs, h.le⟩

/-- What a call leaves, behind a step that only made memory. -/
theorem WPost.after {w0 w w1 : World} {wb : Nat} {ok : Nat → Prop} {e' : Int} {out' : List Int} {r : Ending} {w' : World} (hk : Kept w w1 (fun _ => False)) (h : WPost w0 w1 wb ok e' out' r w') : WPost w0 w wb ok e' out' r w' := by
  obtain ⟨hr, v', hW, hB, hK⟩ := h
  exact ⟨hr, v', hW.mono (fun k hk' => hk'.elim .inl (fun h => .inr (Nat.le_trans hk.1 h))), hB, (hk.mono (fun _ h => h.elim)).then_ hK (fun _ h => .inl h)⟩

theorem WPost.mk {w0 w : World} {wb : Nat} {ok : Nat → Prop} {v' : Value} {e' : Int} {out' : List Int} {w' : World}
    (hW : WrAt w' w0.heap.size wb (fun k => ok k ∨ w.heap.size ≤ k) v' e' out') (hB : Below w0.heap.size w0 w') (hK : Kept w w' ok) : WPost w0 w wb ok e' out' (.returned (.tuple #[])) w' := ⟨rfl, v', hW, hB, hK⟩

def uintE (e : Int) (out : List Int) (n : Int) : Int := if n < 0 then (if e = 0 then 2 else e) else putE e out (grp n.toNat)
def uintO (e : Int) (out : List Int) (n : Int) : List Int := if n < 0 then out else putO e out (grp n.toNat)

theorem uint_calls (w0 w : World) (wb : Nat) (ok : Nat → Prop) (v : Value) (e : Int) (out : List Int) (n : Int)
    (hB : Below w0.heap.size w0 w) (hW : WrAt w w0.heap.size wb ok v e out) (h0 : -9223372036854775808 ≤ n) (h1 : n ≤ 9223372036854775807) :
    Calls Try.prog 44 #[.pointer (some ⟨wb, 0, none⟩), .int .i64 n] w (WPost w0 w wb ok (uintE e out n) (uintO e out n)) := by
  have HW := Lib.hid hW
  have HB := Lib.hid hB
  clear hW hB
  by_cases h : n < 0
  · have c1 : decide (n < 0) = true := decide_eq_true h
    have HE := Lib.hid (show uintE e out n = (if e = 0 then 2 else e) ∧ uintO e out n = out by simp [uintE, uintO, h])
    clear h h0 h1
    go_enter Try.func44, Try.ntmps44
    go_wp2_with (first | (go_at_call 57; refine (fail_calls _ _ _ _ _ _ _ HW.out.blk rfl).mono ?_; rintro r w' ⟨rfl, hw⟩; have HF := Lib.hid hw; clear hw))
    go_end0
    rw [HE.out.1, HE.out.2]
    by_cases he : e = 0
    · have hw := HF.out
      rw [if_pos he] at hw; rw [if_pos he]
      subst hw
      exact .mk (HW.out.of_set 2) (HB.out.setCell HW.out.hb _) ((Kept.refl _ _).setCell (.inl HW.out.okb) _)
    · have hw := HF.out
      rw [if_neg he] at hw; rw [if_neg he]
      subst hw
      exact .mk (HW.out.mono (fun _ hk => .inl hk)) HB.out (Kept.refl _ _)
  · have c1 : decide (n < 0) = false := decide_eq_false h
    have HE := Lib.hid (show uintE e out n = putE e out (grp n.toNat) ∧ uintO e out n = putO e out (grp n.toNat) by simp [uintE, uintO, h])
    have h2 : 0 ≤ n := by omega
    have hg := Lib.hid (grp_len10 (n := n.toNat) (by omega))
    clear h
    go_enter Try.func44, Try.ntmps44
    go_wp2_with (first | (go_at_call 59; (refine (group_calls w0 _ (fun _ => False) _ [] _ (by omega) (by omega) HB.out (Kd.R_nil _ _ _ _ _) (by simp)).mono ?_; rintro e w1 ⟨v1, rfl, hO, hB1, hK⟩; rw [List.nil_append] at hO; obtain ⟨A2, c2, rfl⟩ := Kd.R_slice hO; have HO2 := Aside0.mk hO; have HB2 := Aside0.mk hB1; have HK2 := Aside0.mk hK; clear hO hB1 hK)) | (go_at_call 58; (refine (put_calls w0 _ wb ok v _ _ _ _ _ HB2.out (HW.out.kept HK2.out (fun _ _ => id)) ((Kd.R_reads' HO2.out).2.2) (by have := hg.out; omega)).mono ?_; rintro r w2 hP; have HP := Lib.hid (WPost.after HK2.out hP); obtain ⟨rfl, hP⟩ := hP; clear hP)))
    go_end0
    rw [HE.out.1, HE.out.2]
    exact HP.out

theorem C_blk {k : IntKind} {w : World} {g t : Nat} {cs : Array Value} (h : w.heap[g]? = some (.cells cs t (0, 0))) (xs : List Int) (hc : cs.toList = xs.map (Value.int k)) (hx : xs.length ≤ 9223372036854775807) : (Kd.int k).C w (some ⟨g, 0, none⟩) xs.length xs := by
  refine Kd.C_of_reads (d := (0 : Int)) ⟨rfl, hx, fun _ => ⟨_, rfl, fun j hj => ?_⟩⟩
  rw [add_plain, blk_cell h, ← Array.getElem?_toList, hc]
  simp [List.getD, hj]

theorem below_alloc' {w0 w : World} (h : Below w0.heap.size w0 w) (o : Obj) : Below w0.heap.size w0 (w.alloc o) := h.alloc h.size o

def boolB (b : Bool) : List Int := [if b then 1 else 0]

end Go.Proofs.Ytmmmhkeecaangaa.Wire
namespace Go.Proofs.Ytmmmhkeecaangaa.Wire
open Go.RowKit Go.Proofs.YtmmmhkeecaangaaW.PrintWords Go.Proofs.YtmmmhkeecaangaaW.PrintLast Go.Proofs.YtmmmhkeecaangaaW.PrintMore
set_option linter.unusedVariables false
set_option linter.unusedSimpArgs false

theorem R_empty (w : World) (base : Nat) (h : base ≤ w.heap.size) : (Kd.int .u8).R 5 (w.alloc (.cells #[] 5)) base (fun k => w.heap.size ≤ k) (.slice (some ⟨w.heap.size, 0, none⟩) 0 0) [] :=
  Kd.R_of_own (own_lit w base 5 .u8 [] h (by simp)) (fun k hk => by simp [Value.ownBlock] at hk; omega)

theorem clone_calls (w0 w : World) (b : List Int) (A : Option Addr) (c : Nat) (hB : Below w0.heap.size w0 w) (hC : (Kd.int .u8).C w A b.length b) (hl : b.length ≤ 100000000000) :
    Calls Try.prog 61 #[.slice A b.length c] w (RowPost w0 w (fun k => w.heap.size ≤ k) (fun _ => False) b) := by
  have HB := Aside0.mk hB
  have HC := Aside0.mk hC
  clear hB hC
  have hq := fun W : World => Lib.run_eql_slice_nil (P := Try.prog) W 48 5 A b.length c 0 0 Try.underlying48
  cases A with
  | none =>
    have hb : b = [] := by
      rcases Nat.eq_zero_or_pos b.length with h | h
      · exact List.eq_nil_of_length_eq_zero h
      · obtain ⟨_, h, _⟩ := HC.out.2.2 h; cases h
    subst hb
    have hq := fun W : World => Lib.run_eql_slice_nil (P := Try.prog) W 48 5 none 0 c 0 0 Try.underlying48
    go_enter Try.func61, Try.ntmps61
    go_wp2
    go_ret
    exact ⟨_, rfl, Kd.R_nil _ _ _ _ _, HB.out, Kept.refl _ _⟩
  | some ad =>
    go_enter Try.func61, Try.ntmps61
    go_wp2_with (first | ((with_reducible refine gate_builtin (b := .append) (xs := #[.tmp 5, .tmp 6]) rfl ?_); at_builtin; (refine Kd.R_append_rows (Kd.int .u8) (w0 := w0) w0.heap.size rfl (.tmp 5) (.tmp 6) 48 5 (.int .u8 0) 1 rfl Try.underlying48 infoB rfl (by decide) (by decide) (.slice (some ⟨w.heap.size, 0, none⟩) 0 0) [] b (some ad) _ c (fun k => w.heap.size ≤ k) (fun _ => False) rfl rfl ?aO ?aC (fun _ _ hp => hp) (fun _ hk => hk.elim) ?aF ?aB ?aS ?aL ?_; (case aB => exact (by repeat (first | (with_reducible first | exact HB.out | apply below_alloc | apply pw_below_drewN | apply below_drew1) | exact HB.out))); (case aF => exact (fun k hk => Nat.le_trans (by simp) hk)); (case aO => first | exact (R_empty w w0.heap.size HB.out.size) | exact (by (with_reducible repeat (first | apply Kd.R_alloc | apply Kd.R_drewN | apply Kd.R_drew)); exact (R_empty w w0.heap.size HB.out.size))); (case aC => exact (C_none HC.out ((Kept.refl w (fun _ => False)).alloc _))); (case aS => exact (below_size (by repeat (first | (with_reducible first | exact HB.out | apply below_alloc | apply pw_below_drewN | apply below_drew1) | exact HB.out)))); (case aL => exact (by simp; omega)); intro v1 w1 hO1 hB1 hG1 hA1; have HO1 := Lib.hid hO1; have HB1 := Lib.hid hB1; have HG1 := Lib.hid hG1; clear hO1 hB1 hG1 hA1)))
    go_ret
    exact ⟨_, rfl, by have h := HO1.out; rw [List.nil_append] at h; exact h, HB1.out, Kept.of_grown HG1.out ((Kept.refl w (fun _ => False)).alloc _) (fun k hk => by simp [Value.ownBlock] at hk; omega)⟩

/-- What End hands back. -/
def EndPost (w0 w : World) (e : Int) (out : List Int) (r : Ending) (w' : World) : Prop :=
  ∃ v', r = .returned (.tuple #[v', .int .i64 e]) ∧ (Kd.int .u8).R 5 w' w0.heap.size (fun k => w.heap.size ≤ k) v' (if e = 0 then out else []) ∧ Below w0.heap.size w0 w' ∧ Kept w w' (fun _ => False)

theorem end_calls (w0 w : World) (wb : Nat) (ok : Nat → Prop) (v : Value) (e : Int) (out : List Int)
    (hB : Below w0.heap.size w0 w) (hW : WrAt w w0.heap.size wb ok v e out) :
    Calls Try.prog 45 #[.pointer (some ⟨wb, 0, none⟩)] w (EndPost w0 w e out) := by
  have hcell0 : w.cell? ⟨wb, 0, none⟩ = some (.int .i64 e) := (blk_cell hW.blk 0).trans rfl
  have hcell1 : w.cell? ⟨wb, 1, none⟩ = some v := (blk_cell hW.blk 1).trans rfl
  obtain ⟨A1, c1, rfl⟩ := Kd.R_slice hW.own
  have HW := Lib.hid hW
  have HB := Lib.hid hB
  have hle := hW.le
  clear hW hB
  by_cases h : e = 0
  · subst h
    go_enter Try.func45, Try.ntmps45
    go_wp2_with (first | (go_at_call 60; (refine (broken_calls _ _ _ _ hcell0).mono ?_; rintro r w' ⟨rfl, rfl⟩)) | (go_at_call 61; (refine (clone_calls w0 _ out A1 c1 HB.out ((Kd.R_reads' HW.out.own).2.2) (by omega)).mono ?_; rintro e w1 ⟨v1, rfl, hO, hB1, hK⟩; have HO := Aside0.mk hO; have HB1 := Aside0.mk hB1; have HK := Aside0.mk hK; clear hO hB1 hK)))
    go_ret2
    exact ⟨_, rfl, HO.out, HB1.out, HK.out⟩
  · have he : (e != 0) = true := by simpa using h
    have HE := Lib.hid (show (if e = 0 then out else []) = [] by simp [h])
    clear h
    go_enter Try.func45, Try.ntmps45
    go_wp2_with (first | (go_at_call 60; (refine (broken_calls _ _ _ _ hcell0).mono ?_; rintro r w' ⟨rfl, rfl⟩)))
    go_quiet (fail)
    go_wp2
    go_ret2
    exact ⟨_, rfl, by rw [HE.out]; exact Kd.R_nil _ _ _ _ _, pw_below_drewN HB.out _, (Kept.refl _ _).drewN _⟩

theorem WrAt.new {w0 w : World} (h : w0.heap.size ≤ w.heap.size) : WrAt (w.alloc (.cells #[.int .i64 0, .slice none 0 0] 73)) w0.heap.size w.heap.size (fun k => w.heap.size ≤ k) (.slice none 0 0) 0 [] :=
  ⟨h, Nat.le_refl _, blk_new _ _, Kd.R_nil _ _ _ _ _, by simp⟩

/-- What a call leaves of a writer that is new since w. -/
theorem WPost.new {w0 w w1 : World} {wb : Nat} {e' : Int} {out' : List Int} {r : Ending} {w' : World} (hk : Kept w w1 (fun _ => False)) (h : WPost w0 w1 wb (fun k => w.heap.size ≤ k) e' out' r w') :
    ∃ v', r = .returned (.tuple #[]) ∧ WrAt w' w0.heap.size wb (fun k => w.heap.size ≤ k) v' e' out' ∧ Below w0.heap.size w0 w' ∧ Kept w w' (fun _ => False) := by
  obtain ⟨hr, v', hW, hB, hK⟩ := h
  exact ⟨v', hr, hW.mono (fun k hk' => hk'.elim id (fun h => Nat.le_trans hk.1 h)), hB, hk.then_ hK (fun _ h => .inr h)⟩

theorem EndPost.after {w0 w w1 : World} {e : Int} {out : List Int} {r : Ending} {w' : World} (hk : Kept w w1 (fun _ => False)) (h : EndPost w0 w1 e out r w') : EndPost w0 w e out r w' := by
  obtain ⟨v', hr, hO, hB, hK⟩ := h
  exact ⟨v', hr, Kd.R_mono hO (fun k h => Nat.le_trans hk.1 h), hB, hk.then_ hK (fun _ h => h.elim)⟩

def frE (n : Int) (b : List Int) : Int := putE (uintE 0 [] n) (uintO 0 [] n) (grp b.length ++ b)
def frO (n : Int) (b : List Int) : List Int := putO (uintE 0 [] n) (uintO 0 [] n) (grp b.length ++ b)

end Go.Proofs.Ytmmmhkeecaangaa.Wire
namespace Go.Proofs.Ytmmmhkeecaangaa.Wire
open Go.RowKit Go.Proofs.YtmmmhkeecaangaaW.PrintWords Go.Proofs.YtmmmhkeecaangaaW.PrintLast Go.Proofs.YtmmmhkeecaangaaW.PrintMore
set_option linter.unusedVariables false
set_option linter.unusedSimpArgs false

/-- A reader's cells lie in block rb: the first error e, the bytes inb in vin, the offset p. -/
structure RdAt (w : World) (base rb : Nat) (ok : Nat → Prop) (vin : Value) (e : Int) (p : Nat) (inb : List Int) : Prop where
  hb : base ≤ rb
  blk : w.heap[rb]? = some (.cells #[.int .i64 e, vin, .int .i64 p, .bool true] 101 (0, 0))
  own : (Kd.int .u8).R 5 w base ok vin inb
  le : p ≤ inb.length
  len : inb.length ≤ 1000000000
  byte : ∀ x ∈ inb, 0 ≤ x ∧ x < 256

/-- What a reading call leaves. -/
structure RLeft (w0 w : World) (rb : Nat) (ok : Nat → Prop) (vin : Value) (e : Int) (p : Nat) (inb : List Int) (w' : World) : Prop where
  rd : RdAt w' w0.heap.size rb ok vin e p inb
  below : Below w0.heap.size w0 w'
  kept : Kept w w' (fun k => k = rb)

theorem RdAt.kept {w w' : World} {base rb : Nat} {ok S : Nat → Prop} {vin : Value} {e : Int} {p : Nat} {inb : List Int} (h : RdAt w base rb ok vin e p inb) (hk : Kept w w' S) (h1 : ¬ S rb) (h2 : ∀ k, ok k → ¬ S k) : RdAt w' base rb ok vin e p inb :=
  ⟨h.hb, blk_kept h.blk hk h1, Kd.R_kept h.own hk h2, h.le, h.len, h.byte⟩
theorem RdAt.drewN {w : World} {base rb : Nat} {ok : Nat → Prop} {vin : Value} {e : Int} {p : Nat} {inb : List Int} (h : RdAt w base rb ok vin e p inb) (n : Nat) : RdAt (w.drewN n) base rb ok vin e p inb :=
  ⟨h.hb, h.blk, h.own, h.le, h.len, h.byte⟩
theorem RdAt.setP {w : World} {base rb : Nat} {ok : Nat → Prop} {vin : Value} {e : Int} {p : Nat} {inb : List Int} (h : RdAt w base rb ok vin e p inb) (q : Nat) (hq : q ≤ inb.length) : RdAt (w.setCell ⟨rb, 2, none⟩ (.int .i64 q)) base rb ok vin e q inb :=
  ⟨h.hb, blk_put h.blk 2 _ rfl, Kd.R_set h.own h.blk (by decide) 2 _, hq, h.len, h.byte⟩
theorem RdAt.setE {w : World} {base rb : Nat} {ok : Nat → Prop} {vin : Value} {e : Int} {p : Nat} {inb : List Int} (h : RdAt w base rb ok vin e p inb) (e' : Int) : RdAt (w.setCell ⟨rb, 0, none⟩ (.int .i64 e')) base rb ok vin e' p inb :=
  ⟨h.hb, blk_put h.blk 0 _ rfl, Kd.R_set h.own h.blk (by decide) 0 _, h.le, h.len, h.byte⟩

abbrev errPanic (c : Int) : Ending := .panicked [{ v := .iface 23 (.int .i64 c), recovered := false }]

/-- The next byte, or ErrShort. -/
def NextPost (w0 w : World) (rb : Nat) (ok : Nat → Prop) (vin : Value) (e : Int) (p : Nat) (inb : List Int) (r : Ending) (w' : World) : Prop :=
  (p < inb.length ∧ r = .returned (.int .u8 (inb.getD p 0)) ∧ RLeft w0 w rb ok vin e (p + 1) inb w') ∨ (p = inb.length ∧ r = errPanic 4 ∧ RLeft w0 w rb ok vin e p inb w')

theorem next_calls (w0 w : World) (rb : Nat) (ok : Nat → Prop) (vin : Value) (e : Int) (p : Nat) (inb : List Int) (hB : Below w0.heap.size w0 w) (hR : RdAt w w0.heap.size rb ok vin e p inb) :
    Calls Try.prog 72 #[.pointer (some ⟨rb, 0, none⟩)] w (NextPost w0 w rb ok vin e p inb) := by
  have hcell1 : w.cell? ⟨rb, 1, none⟩ = some vin := (blk_cell hR.blk 1).trans rfl
  have hcell2 : w.cell? ⟨rb, 2, none⟩ = some (.int .i64 p) := (blk_cell hR.blk 2).trans rfl
  have hfr : w.frozen? ⟨rb, 2, none⟩ = false := blk_frozen hR.blk 2
  obtain ⟨A1, c1, rfl⟩ := Kd.R_slice hR.own
  have HR := Lib.hid hR
  have HB := Lib.hid hB
  have hle := hR.le
  have hlen := hR.len
  clear hR hB
  by_cases h : p < inb.length
  · have t1 : (((p : Nat) : Int) == ((inb.length : Nat) : Int)) = false := by rw [beq_eq_false_iff_ne]; omega
    have t2 : (p == inb.length) = false := by rw [beq_eq_false_iff_ne]; omega
    obtain ⟨ad, hA, hcell⟩ := C_at ((Kd.R_reads' HR.out.own).2.2) p h
    subst hA
    have hgp := Lib.hid h
    have hp0 : 0 ≤ (p : Int) := by omega
    have hp1 : (p : Int) < (inb.length : Int) := by omega
    generalize hx : inb.getD p 0 = x at hcell
    have HX := Lib.hid hx
    clear hx
    go_enter Try.func72, Try.ntmps72
    go_wp2
    go_quiet (fail)
    go_wp2
    go_quiet (fail)
    go_wp2
    go_ret
    exact .inl ⟨hgp.out, by rw [HX.out]; rfl, (HR.out.drewN _).setP (p + 1) (by omega), (pw_below_drewN HB.out _).setCell HR.out.hb _, Kept.setCell (S := fun k => k = rb) ((Kept.refl w _).drewN _) (p := ⟨rb, 2, none⟩) (.inl rfl) _⟩
  · have hp : p = inb.length := by omega
    have t1 : (((p : Nat) : Int) == ((inb.length : Nat) : Int)) = true := by rw [beq_iff_eq]; omega
    have t2 : (p == inb.length) = true := by rw [beq_iff_eq]; omega
    have hgp := Lib.hid hp
    clear hp h
    go_enter Try.func72, Try.ntmps72
    go_wp2
    go_quiet (fail)
    go_wp2
    exact ⟨rfl, .inr ⟨hgp.out, rfl, HR.out.drewN _, pw_below_drewN HB.out _, (Kept.refl _ _).drewN _⟩⟩

/-- A number is read: at offset p, behind s bits that were read as acc. -/
def numF (bits : Nat) (inb : List Int) (p s : Nat) (acc : Int) : Except Int (Int × Nat) :=
  if h : p < inb.length then
    if ((bits : Int) - s < 7 ∧ inb.getD p 0 / 2 ^ (bits - s) ≠ 0) ∨ ((bits : Int) - s = 7 ∧ 128 ≤ inb.getD p 0) then .error 6
    else if inb.getD p 0 < 128 then (if inb.getD p 0 = 0 ∧ 0 < s then .error 6 else .ok (acc + inb.getD p 0 % 128 * 2 ^ s, p + 1))
    else numF bits inb (p + 1) (s + 7) (acc + inb.getD p 0 % 128 * 2 ^ s)
  else .error 4
termination_by inb.length - p

def NumPost (w0 w : World) (rb : Nat) (ok : Nat → Prop) (vin : Value) (e : Int) (inb : List Int) (x : Except Int (Int × Nat)) (r : Ending) (w' : World) : Prop :=
  match x with
  | .ok (n, q) => r = .returned (.int .u64 n) ∧ RLeft w0 w rb ok vin e q inb w'
  | .error c => r = errPanic c ∧ ∃ q, RLeft w0 w rb ok vin e q inb w'

theorem RLeft.trans {w0 w w1 w2 : World} {rb : Nat} {ok : Nat → Prop} {vin : Value} {e e' : Int} {p p' : Nat} {inb : List Int} (h : RLeft w0 w rb ok vin e p inb w1) (k : RLeft w0 w1 rb ok vin e' p' inb w2) : RLeft w0 w rb ok vin e' p' inb w2 :=
  ⟨k.rd, k.below, h.kept.then_ k.kept (fun _ h => .inl h)⟩

theorem shl_in (b : Int) (s : Nat) (h0 : 0 ≤ b) (h1 : b < 128) (hs : s ≤ 56 ∨ (s = 63 ∧ b ≤ 1)) : b * 2 ^ s < 18446744073709551616 ∧ 0 ≤ b * 2 ^ s := by
  have hp : (0 : Int) < 2 ^ s := Int.pow_pos (by decide)
  refine ⟨?_, Int.mul_nonneg h0 (Int.le_of_lt hp)⟩
  rcases hs with hs | ⟨rfl, hb⟩
  · have h2 : (2 : Int) ^ s ≤ 2 ^ 56 := by
      have := Nat.pow_le_pow_right (n := 2) (by decide) hs
      exact_mod_cast this
    have h3 : b * 2 ^ s ≤ 127 * 2 ^ 56 := Int.mul_le_mul (by omega) h2 (Int.le_of_lt hp) (by decide)
    have : (127 : Int) * 2 ^ 56 < 18446744073709551616 := by decide
    omega
  · have : (b = 0 ∨ b = 1) := by omega
    rcases this with rfl | rfl <;> decide

theorem or_acc (acc : Int) (b : Int) (s : Nat) (ha0 : 0 ≤ acc) (ha : acc < 2 ^ s) (h0 : 0 ≤ b) (h1 : b < 128) (hs : s ≤ 56 ∨ (s = 63 ∧ b ≤ 1)) :
    Go.bits .or .u64 acc (b * 2 ^ s) = acc + b * 2 ^ s := by
  obtain ⟨h2, h3⟩ := shl_in b s h0 h1 hs
  obtain ⟨a, rfl⟩ := Int.eq_ofNat_of_zero_le ha0
  obtain ⟨c, rfl⟩ := Int.eq_ofNat_of_zero_le h0
  have ha' : a < 2 ^ s := by rw [← Int.ofNat_lt, Int.natCast_pow]; exact ha
  have hs2 : (2 : Nat) ^ s ≤ 2 ^ 63 := Nat.pow_le_pow_right (by decide) (by omega)
  have e : ((c : Int) * 2 ^ s) = ((c * 2 ^ s : Nat) : Int) := by rw [Int.natCast_mul, Int.natCast_pow]; rfl
  rw [e] at h2 ⊢
  rw [u64_or_nat a (c * 2 ^ s) (by omega) (by omega), Nat.or_comm, nat_join s (c * 2 ^ s) a (Nat.mul_mod_left _ _) ha']
  rw [Int.natCast_add]; omega
theorem or_acc' (acc : Int) (b : Int) (s : Nat) (ha0 : 0 ≤ acc) (ha : acc < 2 ^ s) (h0 : 0 ≤ b) (h1 : b < 128) (hs : s ≤ 56 ∨ (s = 63 ∧ b ≤ 1)) :
    Go.bits .or .u64 acc (IntKind.u64.wrap (b * 2 ^ s)) = acc + b * 2 ^ s := by
  obtain ⟨h2, h3⟩ := shl_in b s h0 h1 hs
  rw [IntKind.wrap_u64, Int.emod_eq_of_lt h3 h2, or_acc acc b s ha0 ha h0 h1 hs]
theorem shl_run (b : Int) (s : Nat) (h0 : 0 ≤ b) (h1 : b < 128) (hs : s ≤ 56 ∨ (s = 63 ∧ b ≤ 1)) :
    Op.shift .shl .u64 b .i64 (s : Int) = pure (.int .u64 (b * 2 ^ s)) := by
  obtain ⟨h2, h3⟩ := shl_in b s h0 h1 hs
  have hm : min (s : Int).toNat IntKind.u64.bits = s := by
    rw [Int.toNat_natCast]; have : IntKind.u64.bits = 64 := rfl
    rw [this]; omega
  rw [shift_shl_any _ _ _ _ (by omega), hm, IntKind.wrap_u64, Int.emod_eq_of_lt h3 h2]
theorem shr_run (b : Int) (B s : Nat) (hs : s < B) (h : (B : Int) - s < 7) : Op.shift .shr .u8 b .i64 ((B : Int) - (s : Int)) = pure (.int .u8 (b / 2 ^ (B - s))) := by
  have hm : min ((B : Int) - (s : Int)).toNat IntKind.u8.bits = B - s := by
    have : IntKind.u8.bits = 8 := rfl
    rw [this]; omega
  rw [shift_shr_any _ _ _ _ (by omega), hm]

theorem next_at (w0 w : World) (rb : Nat) (ok : Nat → Prop) (vin : Value) (e : Int) (p : Nat) (inb : List Int) (h : p < inb.length) (hB : Below w0.heap.size w0 w) (hR : RdAt w w0.heap.size rb ok vin e p inb) :
    Calls Try.prog 72 #[.pointer (some ⟨rb, 0, none⟩)] w (fun r w' => r = .returned (.int .u8 (inb.getD p 0)) ∧ RLeft w0 w rb ok vin e (p + 1) inb w') :=
  (next_calls w0 w rb ok vin e p inb hB hR).mono fun r w' hP => hP.elim (fun h1 => h1.2) (fun h1 => absurd h1.1 (by omega))
theorem next_end (w0 w : World) (rb : Nat) (ok : Nat → Prop) (vin : Value) (e : Int) (p : Nat) (inb : List Int) (h : p = inb.length) (hB : Below w0.heap.size w0 w) (hR : RdAt w w0.heap.size rb ok vin e p inb) :
    Calls Try.prog 72 #[.pointer (some ⟨rb, 0, none⟩)] w (fun r w' => r = errPanic 4 ∧ RLeft w0 w rb ok vin e p inb w') :=
  (next_calls w0 w rb ok vin e p inb hB hR).mono fun r w' hP => hP.elim (fun h1 => absurd h1.1 (by omega)) (fun h1 => h1.2)
end Go.Proofs.Ytmmmhkeecaangaa.Wire
namespace Go.Proofs.Ytmmmhkeecaangaa.Wire
open Go.RowKit Go.Proofs.YtmmmhkeecaangaaW.PrintWords Go.Proofs.YtmmmhkeecaangaaW.PrintLast Go.Proofs.YtmmmhkeecaangaaW.PrintMore
set_option linter.unusedVariables false
set_option linter.unusedSimpArgs false

theorem numF_end {bits : Nat} {inb : List Int} {p s : Nat} {acc : Int} (h : ¬ p < inb.length) : numF bits inb p s acc = .error 4 := by rw [numF, dif_neg h]
theorem numF_bad {bits : Nat} {inb : List Int} {p s : Nat} {acc b : Int} (h : p < inb.length) (hb : inb.getD p 0 = b) (h2 : ((bits : Int) - s < 7 ∧ b / 2 ^ (bits - s) ≠ 0) ∨ ((bits : Int) - s = 7 ∧ 128 ≤ b)) : numF bits inb p s acc = .error 6 := by
  subst hb; rw [numF, dif_pos h, if_pos h2]
theorem numF_zero {bits : Nat} {inb : List Int} {p s : Nat} {acc b : Int} (h : p < inb.length) (hb : inb.getD p 0 = b) (h2 : ¬ (((bits : Int) - s < 7 ∧ b / 2 ^ (bits - s) ≠ 0) ∨ ((bits : Int) - s = 7 ∧ 128 ≤ b))) (h3 : b < 128) (h4 : b = 0 ∧ 0 < s) : numF bits inb p s acc = .error 6 := by
  subst hb; rw [numF, dif_pos h, if_neg h2, if_pos h3, if_pos h4]
theorem numF_last {bits : Nat} {inb : List Int} {p s : Nat} {acc b : Int} (h : p < inb.length) (hb : inb.getD p 0 = b) (h2 : ¬ (((bits : Int) - s < 7 ∧ b / 2 ^ (bits - s) ≠ 0) ∨ ((bits : Int) - s = 7 ∧ 128 ≤ b))) (h3 : b < 128) (h4 : ¬ (b = 0 ∧ 0 < s)) : numF bits inb p s acc = .ok (acc + b % 128 * 2 ^ s, p + 1) := by
  subst hb; rw [numF, dif_pos h, if_neg h2, if_pos h3, if_neg h4]
theorem numF_more {bits : Nat} {inb : List Int} {p s : Nat} {acc b : Int} (h : p < inb.length) (hb : inb.getD p 0 = b) (h2 : ¬ (((bits : Int) - s < 7 ∧ b / 2 ^ (bits - s) ≠ 0) ∨ ((bits : Int) - s = 7 ∧ 128 ≤ b))) (h3 : ¬ b < 128) : numF bits inb p s acc = numF bits inb (p + 1) (s + 7) (acc + b % 128 * 2 ^ s) := by
  subst hb; rw [numF, dif_pos h, if_neg h2, if_neg h3]

theorem NumPost.ok_mk {w0 w w1 : World} {rb : Nat} {ok : Nat → Prop} {vin : Value} {e : Int} {inb : List Int} {x : Except Int (Int × Nat)} {n : Int} {q : Nat} (hx : x = .ok (n, q)) (h : RLeft w0 w rb ok vin e q inb w1) : NumPost w0 w rb ok vin e inb x (.returned (.int .u64 n)) w1 := by subst hx; exact ⟨rfl, h⟩
theorem NumPost.err_mk {w0 w w1 : World} {rb : Nat} {ok : Nat → Prop} {vin : Value} {e c : Int} {inb : List Int} {x : Except Int (Int × Nat)} {q : Nat} (hx : x = .error c) (h : RLeft w0 w rb ok vin e q inb w1) : NumPost w0 w rb ok vin e inb x (errPanic c) w1 := by subst hx; exact ⟨rfl, q, h⟩

theorem RLeft.refl {w0 w : World} {rb : Nat} {ok : Nat → Prop} {vin : Value} {e : Int} {p : Nat} {inb : List Int} (hR : RdAt w w0.heap.size rb ok vin e p inb) (hB : Below w0.heap.size w0 w) : RLeft w0 w rb ok vin e p inb w := ⟨hR, hB, Kept.refl _ _⟩

theorem acc_next (acc b : Int) (s : Nat) (ha0 : 0 ≤ acc) (ha : acc < 2 ^ s) (h0 : 0 ≤ b) (h1 : b < 128) : 0 ≤ acc + b * 2 ^ s ∧ acc + b * 2 ^ s < 2 ^ (s + 7) := by
  have hp : (0 : Int) < 2 ^ s := Int.pow_pos (by decide)
  have h2 : b * 2 ^ s ≤ 127 * 2 ^ s := Int.mul_le_mul_of_nonneg_right (by omega) (Int.le_of_lt hp)
  have h3 : 0 ≤ b * 2 ^ s := Int.mul_nonneg h0 (Int.le_of_lt hp)
  have h4 : (2 : Int) ^ (s + 7) = 2 ^ s * 128 := by rw [Int.pow_add]; rfl
  rw [h4]; omega

set_option maxHeartbeats 4000000 in
theorem number_calls (w0 w : World) (rb : Nat) (ok : Nat → Prop) (vin : Value) (e : Int) (p : Nat) (inb : List Int) (B : Nat) (hBits : B = 63 ∨ B = 64) (hB : Below w0.heap.size w0 w) (hR : RdAt w w0.heap.size rb ok vin e p inb) :
    Calls Try.prog 66 #[.pointer (some ⟨rb, 0, none⟩), .int .i64 (B : Int)] w (NumPost w0 w rb ok vin e inb (numF B inb p 0 0)) := by
  have HL := Aside0.mk (RLeft.refl hR hB)
  have HBits := Lib.hid hBits
  have hB1 : B ≤ 64 := by omega
  have hB2 : 63 ≤ B := by omega
  have hlen := hR.len
  have HBY := Lib.hid hR.byte
  clear hR hB hBits
  generalize hres : numF B inb p 0 0 = res
  have HRES := Aside0.mk hres
  clear hres
  go_enter Try.func66, Try.ntmps66
  go_wp2
  go_loopg [4, 5] inb.length (fun g v4 v5 w' => ∃ (acc : Int) (s q : Nat), v4 = .int .u64 acc ∧ v5 = .int .i64 s ∧ s < B ∧ s % 7 = 0 ∧ 0 ≤ acc ∧ Aside0 (acc < 2 ^ s) ∧ q ≤ inb.length ∧ Aside0 (g + q = p + inb.length) ∧ Aside0 (numF B inb q s acc = res) ∧ Aside0 (RLeft w0 w rb ok vin e q inb w'))
  case atStart => exact ⟨0, 0, p, rfl, rfl, by omega, by omega, by omega, ⟨by simp⟩, HL.out.rd.le, ⟨by omega⟩, HRES, HL⟩
  case round =>
    obtain ⟨acc, s, q, rfl, rfl, hsB, hs7, ha0, HA, hq, HM, HN, HL⟩ := hrel
    have hs : s ≤ 56 ∨ s = 63 := by omega
    by_cases hend : q < inb.length
    · have hby := HBY.out (inb.getD q 0) (by rw [show inb.getD q 0 = inb[q] by simp [List.getD, hend]]; exact List.getElem_mem hend)
      generalize hb : inb.getD q 0 = b at hby
      have HBD := Lib.hid hb
      clear hb
      have hb0 := hby.1
      have hb1 := hby.2
      clear hby
      by_cases hbad : ((B : Int) - s < 7 ∧ b / 2 ^ (B - s) ≠ 0) ∨ ((B : Int) - s = 7 ∧ 128 ≤ b)
      · have HF := Lib.hid (numF_bad (acc := acc) hend HBD.out hbad)
        rcases hbad with ⟨h1, h2⟩ | ⟨h1, h2⟩
        · have c1 : decide ((B : Int) - (s : Int) < 7) = true := decide_eq_true h1
          have c2 : (b / 2 ^ (B - s) != 0) = true := by simpa using h2
          have hsh := shr_run b B s hsB h1
          have c3 : ((B : Int) - (s : Int) == 7) = false := by rw [beq_eq_false_iff_ne]; omega
          clear h1 h2
          go_wp2_with (first | (go_at_call 72; (refine (next_at w0 _ rb ok vin e q inb hend HL.out.below HL.out.rd).mono ?_; rintro r w1 ⟨rfl, hP⟩; rw [HBD.out]; have HP := Aside0.mk (HL.out.trans hP); clear hP)))
          exact ⟨rfl, NumPost.err_mk (HN.out ▸ HF.out) HP.out⟩
        · have c1 : decide ((B : Int) - (s : Int) < 7) = false := decide_eq_false (by omega)
          have c2 : ((B : Int) - (s : Int) == 7) = true := by rw [beq_iff_eq]; omega
          have c3 : decide (128 ≤ b) = true := decide_eq_true h2
          clear h1 h2
          go_wp2_with (first | (go_at_call 72; (refine (next_at w0 _ rb ok vin e q inb hend HL.out.below HL.out.rd).mono ?_; rintro r w1 ⟨rfl, hP⟩; rw [HBD.out]; have HP := Aside0.mk (HL.out.trans hP); clear hP)))
          exact ⟨rfl, NumPost.err_mk (HN.out ▸ HF.out) HP.out⟩
      · have hlf : b < 128 → (s ≤ 56 ∨ (s = 63 ∧ b % 128 ≤ 1)) := by
          intro h128
          rcases hs with h | h
          · exact .inl h
          · refine .inr ⟨h, ?_⟩
            subst h
            have hB64 : B = 64 := by omega
            subst hB64
            have : b / 2 ^ (64 - 63) = 0 := by
              rcases Decidable.em (b / 2 ^ (64 - 63) = 0) with h | h
              · exact h
              · exact absurd (.inl ⟨by omega, h⟩) hbad
            have h2 : b / 2 = 0 := this
            omega
        have hlm : ¬ b < 128 → s ≤ 56 ∧ s + 7 < B := by
          intro h128
          by_cases hL : (B : Int) - s < 7
          · exfalso
            apply hbad
            refine .inl ⟨hL, ?_⟩
            have h2 : (2 : Int) ^ (B - s) ≤ 2 ^ 6 := by
              have := Nat.pow_le_pow_right (n := 2) (by decide) (show B - s ≤ 6 by omega)
              have h3 : (((2 : Nat) ^ (B - s) : Nat) : Int) ≤ (((2 : Nat) ^ 6 : Nat) : Int) := Int.ofNat_le.2 this
              rw [Int.natCast_pow, Int.natCast_pow] at h3; exact h3
            have hp : (0 : Int) < 2 ^ (B - s) := Int.pow_pos (by decide)
            intro h0
            have h4 := Int.lt_ediv_add_one_mul_self b hp
            rw [h0] at h4
            have h5 : (2 : Int) ^ 6 = 64 := by decide
            omega
          · have : ¬ (B : Int) - s = 7 := fun h7 => hbad (.inr ⟨h7, by omega⟩)
            omega
        have hsplit : ((B : Int) - s < 7 ∧ b / 2 ^ (B - s) = 0) ∨ ((B : Int) - s = 7 ∧ ¬ 128 ≤ b) ∨ 7 < (B : Int) - s := by
          by_cases h1 : (B : Int) - s < 7
          · exact .inl ⟨h1, Decidable.not_not.1 fun h => hbad (.inl ⟨h1, h⟩)⟩
          · by_cases h2 : (B : Int) - s = 7
            · exact .inr (.inl ⟨h2, fun h => hbad (.inr ⟨h2, h⟩)⟩)
            · exact .inr (.inr (by omega))
        have h00 : 0 ≤ (B : Int) - (s : Int) := by omega
        by_cases hsm : b < 128
        · have hsh2 := shl_run (b % 128) s (by omega) (by omega) (hlf hsm)
          have hor := or_acc' acc (b % 128) s ha0 HA.out (by omega) (by omega) (hlf hsm)
          have c4 : decide (b < 128) = true := decide_eq_true hsm
          have c4' : decide (128 ≤ b) = false := decide_eq_false (by omega)
          by_cases hz : b = 0 ∧ 0 < s
          · have HF := Lib.hid (numF_zero (acc := acc) hend HBD.out hbad hsm hz)
            have c5 : (b == 0) = true := by rw [beq_iff_eq]; exact hz.1
            have c6 : decide (0 < s) = true := decide_eq_true hz.2
            have c7 : decide (0 < (s : Int)) = true := decide_eq_true (by omega)
            clear hbad hlf hlm hsm hz
            rcases hsplit with ⟨h1, h2⟩ | ⟨h1, h2⟩ | h1
            · have c1 : decide ((B : Int) - (s : Int) < 7) = true := decide_eq_true h1
              have c2 : (b / 2 ^ (B - s) != 0) = false := by rw [bne_eq_false_iff_eq]; exact h2
              have hsh := shr_run b B s hsB h1
              have c3 : ((B : Int) - (s : Int) == 7) = false := by rw [beq_eq_false_iff_ne]; omega
              clear h1 h2
              go_wp2_with (first | (go_at_call 72; (refine (next_at w0 _ rb ok vin e q inb hend HL.out.below HL.out.rd).mono ?_; rintro r w1 ⟨rfl, hP⟩; rw [HBD.out]; have HP := Aside0.mk (HL.out.trans hP); clear hP)))
              exact ⟨rfl, NumPost.err_mk (HN.out ▸ HF.out) HP.out⟩
            · have c1 : decide ((B : Int) - (s : Int) < 7) = false := decide_eq_false (by omega)
              have c2 : ((B : Int) - (s : Int) == 7) = true := by rw [beq_iff_eq]; omega
              have c3 : decide (128 ≤ b) = false := decide_eq_false h2
              clear h1 h2
              go_wp2_with (first | (go_at_call 72; (refine (next_at w0 _ rb ok vin e q inb hend HL.out.below HL.out.rd).mono ?_; rintro r w1 ⟨rfl, hP⟩; rw [HBD.out]; have HP := Aside0.mk (HL.out.trans hP); clear hP)))
              exact ⟨rfl, NumPost.err_mk (HN.out ▸ HF.out) HP.out⟩
            · have c1 : decide ((B : Int) - (s : Int) < 7) = false := decide_eq_false (by omega)
              have c2 : ((B : Int) - (s : Int) == 7) = false := by rw [beq_eq_false_iff_ne]; omega
              clear h1
              go_wp2_with (first | (go_at_call 72; (refine (next_at w0 _ rb ok vin e q inb hend HL.out.below HL.out.rd).mono ?_; rintro r w1 ⟨rfl, hP⟩; rw [HBD.out]; have HP := Aside0.mk (HL.out.trans hP); clear hP)))
              exact ⟨rfl, NumPost.err_mk (HN.out ▸ HF.out) HP.out⟩

          · have HF := Lib.hid (numF_last (acc := acc) hend HBD.out hbad hsm hz)
            by_cases hz0 : b = 0
            · have hs0 : s = 0 := by omega
              have c5 : (b == 0) = true := by rw [beq_iff_eq]; exact hz0
              have c6 : decide (0 < s) = false := decide_eq_false (by omega)
              have c7 : decide (0 < (s : Int)) = false := decide_eq_false (by omega)
              have HS0 := Lib.hid hs0
              clear hbad hlf hlm hsm hz hz0 hs0
              rcases hsplit with ⟨h1, h2⟩ | ⟨h1, h2⟩ | h1
              · have c1 : decide ((B : Int) - (s : Int) < 7) = true := decide_eq_true h1
                have c2 : (b / 2 ^ (B - s) != 0) = false := by rw [bne_eq_false_iff_eq]; exact h2
                have hsh := shr_run b B s hsB h1
                have c3 : ((B : Int) - (s : Int) == 7) = false := by rw [beq_eq_false_iff_ne]; omega
                clear h1 h2
                go_wp2_with (first | (go_at_call 72; (refine (next_at w0 _ rb ok vin e q inb hend HL.out.below HL.out.rd).mono ?_; rintro r w1 ⟨rfl, hP⟩; rw [HBD.out]; have HP := Aside0.mk (HL.out.trans hP); clear hP)))
                go_ret
                exact NumPost.ok_mk (HN.out ▸ HF.out) HP.out
              · have c1 : decide ((B : Int) - (s : Int) < 7) = false := decide_eq_false (by omega)
                have c2 : ((B : Int) - (s : Int) == 7) = true := by rw [beq_iff_eq]; omega
                have c3 : decide (128 ≤ b) = false := decide_eq_false h2
                clear h1 h2
                go_wp2_with (first | (go_at_call 72; (refine (next_at w0 _ rb ok vin e q inb hend HL.out.below HL.out.rd).mono ?_; rintro r w1 ⟨rfl, hP⟩; rw [HBD.out]; have HP := Aside0.mk (HL.out.trans hP); clear hP)))
                go_ret
                exact NumPost.ok_mk (HN.out ▸ HF.out) HP.out
              · have c1 : decide ((B : Int) - (s : Int) < 7) = false := decide_eq_false (by omega)
                have c2 : ((B : Int) - (s : Int) == 7) = false := by rw [beq_eq_false_iff_ne]; omega
                clear h1
                go_wp2_with (first | (go_at_call 72; (refine (next_at w0 _ rb ok vin e q inb hend HL.out.below HL.out.rd).mono ?_; rintro r w1 ⟨rfl, hP⟩; rw [HBD.out]; have HP := Aside0.mk (HL.out.trans hP); clear hP)))
                go_ret
                exact NumPost.ok_mk (HN.out ▸ HF.out) HP.out

            · have c5 : (b == 0) = false := by rw [beq_eq_false_iff_ne]; exact hz0
              clear hbad hlf hlm hsm hz hz0
              rcases hsplit with ⟨h1, h2⟩ | ⟨h1, h2⟩ | h1
              · have c1 : decide ((B : Int) - (s : Int) < 7) = true := decide_eq_true h1
                have c2 : (b / 2 ^ (B - s) != 0) = false := by rw [bne_eq_false_iff_eq]; exact h2
                have hsh := shr_run b B s hsB h1
                have c3 : ((B : Int) - (s : Int) == 7) = false := by rw [beq_eq_false_iff_ne]; omega
                clear h1 h2
                go_wp2_with (first | (go_at_call 72; (refine (next_at w0 _ rb ok vin e q inb hend HL.out.below HL.out.rd).mono ?_; rintro r w1 ⟨rfl, hP⟩; rw [HBD.out]; have HP := Aside0.mk (HL.out.trans hP); clear hP)))
                go_ret
                exact NumPost.ok_mk (HN.out ▸ HF.out) HP.out
              · have c1 : decide ((B : Int) - (s : Int) < 7) = false := decide_eq_false (by omega)
                have c2 : ((B : Int) - (s : Int) == 7) = true := by rw [beq_iff_eq]; omega
                have c3 : decide (128 ≤ b) = false := decide_eq_false h2
                clear h1 h2
                go_wp2_with (first | (go_at_call 72; (refine (next_at w0 _ rb ok vin e q inb hend HL.out.below HL.out.rd).mono ?_; rintro r w1 ⟨rfl, hP⟩; rw [HBD.out]; have HP := Aside0.mk (HL.out.trans hP); clear hP)))
                go_ret
                exact NumPost.ok_mk (HN.out ▸ HF.out) HP.out
              · have c1 : decide ((B : Int) - (s : Int) < 7) = false := decide_eq_false (by omega)
                have c2 : ((B : Int) - (s : Int) == 7) = false := by rw [beq_eq_false_iff_ne]; omega
                clear h1
                go_wp2_with (first | (go_at_call 72; (refine (next_at w0 _ rb ok vin e q inb hend HL.out.below HL.out.rd).mono ?_; rintro r w1 ⟨rfl, hP⟩; rw [HBD.out]; have HP := Aside0.mk (HL.out.trans hP); clear hP)))
                go_ret
                exact NumPost.ok_mk (HN.out ▸ HF.out) HP.out

        · have hk := hlm hsm
          have hk2 := hk.2
          have hsh2 := shl_run (b % 128) s (by omega) (by omega) (.inl hk.1)
          have hor := or_acc' acc (b % 128) s ha0 HA.out (by omega) (by omega) (.inl hk.1)
          have HF := Lib.hid (numF_more (acc := acc) hend HBD.out hbad hsm)
          have HAN := Lib.hid (acc_next acc (b % 128) s ha0 HA.out (by omega) (by omega))
          have c4 : decide (b < 128) = false := decide_eq_false hsm
          have c4' : decide (128 ≤ b) = true := decide_eq_true (by omega)
          clear hbad hlf hlm hsm hk
          rcases hsplit with ⟨h1, h2⟩ | ⟨h1, h2⟩ | h1
          · have c1 : decide ((B : Int) - (s : Int) < 7) = true := decide_eq_true h1
            have c2 : (b / 2 ^ (B - s) != 0) = false := by rw [bne_eq_false_iff_eq]; exact h2
            have hsh := shr_run b B s hsB h1
            have c3 : ((B : Int) - (s : Int) == 7) = false := by rw [beq_eq_false_iff_ne]; omega
            clear h1 h2
            go_wp2_with (first | (go_at_call 72; (refine (next_at w0 _ rb ok vin e q inb hend HL.out.below HL.out.rd).mono ?_; rintro r w1 ⟨rfl, hP⟩; rw [HBD.out]; have HP := Aside0.mk (HL.out.trans hP); clear hP)))
            go_roundg (p + inb.length - (q + 1))
            case measure => have := HM.out; omega
            case rel => exact ⟨acc + b % 128 * 2 ^ s, s + 7, q + 1, rfl, by go_num, hk2, by omega, HAN.out.1, ⟨HAN.out.2⟩, by omega, ⟨by omega⟩, ⟨HF.out ▸ HN.out⟩, HP⟩
          · exact absurd (of_decide_eq_true c4') h2
          · have c1 : decide ((B : Int) - (s : Int) < 7) = false := decide_eq_false (by omega)
            have c2 : ((B : Int) - (s : Int) == 7) = false := by rw [beq_eq_false_iff_ne]; omega
            clear h1
            go_wp2_with (first | (go_at_call 72; (refine (next_at w0 _ rb ok vin e q inb hend HL.out.below HL.out.rd).mono ?_; rintro r w1 ⟨rfl, hP⟩; rw [HBD.out]; have HP := Aside0.mk (HL.out.trans hP); clear hP)))
            go_roundg (p + inb.length - (q + 1))
            case measure => have := HM.out; omega
            case rel => exact ⟨acc + b % 128 * 2 ^ s, s + 7, q + 1, rfl, by go_num, hk2, by omega, HAN.out.1, ⟨HAN.out.2⟩, by omega, ⟨by omega⟩, ⟨HF.out ▸ HN.out⟩, HP⟩
    · have hqe : q = inb.length := by omega
      have HF := Lib.hid (numF_end (bits := B) (s := s) (acc := acc) hend)
      clear hend
      go_wp2_with (first | (go_at_call 72; (refine (next_end w0 _ rb ok vin e q inb hqe HL.out.below HL.out.rd).mono ?_; rintro r w1 ⟨rfl, hP⟩; have HP := Aside0.mk hP; clear hP)))
      exact ⟨rfl, NumPost.err_mk (HN.out ▸ HF.out) (HL.out.trans HP.out)⟩
end Go.Proofs.Ytmmmhkeecaangaa.Wire
namespace Go.Proofs.Ytmmmhkeecaangaa.Wire
open Go.RowKit Go.Proofs.YtmmmhkeecaangaaW.PrintWords Go.Proofs.YtmmmhkeecaangaaW.PrintLast Go.Proofs.YtmmmhkeecaangaaW.PrintMore
set_option linter.unusedVariables false
set_option linter.unusedSimpArgs false

theorem pow_split (B s : Nat) (h : s ≤ B) : (2 : Int) ^ B = 2 ^ (B - s) * 2 ^ s := by rw [← Int.pow_add]; congr 1; omega

theorem numF_range {B : Nat} (hB : 63 ≤ B ∧ B ≤ 64) {inb : List Int} (hby : ∀ x ∈ inb, 0 ≤ x ∧ x < 256) (d : Nat) : ∀ (p s : Nat) (acc : Int), inb.length - p ≤ d → s < B → 0 ≤ acc → acc < 2 ^ s → ∀ n q, numF B inb p s acc = .ok (n, q) → 0 ≤ n ∧ n < 2 ^ B ∧ p < q ∧ q ≤ inb.length := by
  induction d with
  | zero =>
    intro p s acc hd hs h0 h1 n q h
    rw [numF_end (by omega)] at h; cases h
  | succ d ih =>
    intro p s acc hd hs h0 h1 n q h
    by_cases hend : p < inb.length
    · have hb := hby (inb.getD p 0) (by rw [show inb.getD p 0 = inb[p] by simp [List.getD, hend]]; exact List.getElem_mem hend)
      generalize hbb : inb.getD p 0 = b at hb
      by_cases hbad : ((B : Int) - s < 7 ∧ b / 2 ^ (B - s) ≠ 0) ∨ ((B : Int) - s = 7 ∧ 128 ≤ b)
      · rw [numF_bad hend hbb hbad] at h; cases h
      · have hn := acc_next acc (b % 128) s h0 h1 (by omega) (by omega)
        by_cases hsm : b < 128
        · by_cases hz : b = 0 ∧ 0 < s
          · rw [numF_zero hend hbb hbad hsm hz] at h; cases h
          · rw [numF_last hend hbb hbad hsm hz] at h
            cases h
            refine ⟨hn.1, ?_, by omega, by omega⟩
            by_cases hl : (B : Int) - s < 7
            · have hb0 : b / 2 ^ (B - s) = 0 := Decidable.not_not.1 fun hh => hbad (.inl ⟨hl, hh⟩)
              have hp : (0 : Int) < 2 ^ (B - s) := Int.pow_pos (by decide)
              have hps : (0 : Int) < 2 ^ s := Int.pow_pos (by decide)
              have h4 := Int.lt_ediv_add_one_mul_self b hp
              rw [hb0] at h4
              have hm : b % 128 = b := Int.emod_eq_of_lt hb.1 hsm
              rw [hm, pow_split B s (by omega)]
              have h5 : (b + 1) * 2 ^ s ≤ 2 ^ (B - s) * 2 ^ s := Int.mul_le_mul_of_nonneg_right (by omega) (Int.le_of_lt hps)
              rw [Int.add_mul, Int.one_mul] at h5
              omega
            · have h6 : (2 : Int) ^ (s + 7) ≤ 2 ^ B := by
                have := Nat.pow_le_pow_right (n := 2) (by decide) (show s + 7 ≤ B by omega)
                have h3 : (((2 : Nat) ^ (s + 7) : Nat) : Int) ≤ (((2 : Nat) ^ B : Nat) : Int) := Int.ofNat_le.2 this
                rw [Int.natCast_pow, Int.natCast_pow] at h3; exact h3
              omega
        · rw [numF_more hend hbb hbad hsm] at h
          have hs7 : s + 7 < B := by
            by_cases hl : (B : Int) - s < 7
            · exfalso
              have hb0 : b / 2 ^ (B - s) = 0 := Decidable.not_not.1 fun hh => hbad (.inl ⟨hl, hh⟩)
              have hp : (0 : Int) < 2 ^ (B - s) := Int.pow_pos (by decide)
              have h4 := Int.lt_ediv_add_one_mul_self b hp
              rw [hb0] at h4
              have h2 : (2 : Int) ^ (B - s) ≤ 2 ^ 6 := by
                have := Nat.pow_le_pow_right (n := 2) (by decide) (show B - s ≤ 6 by omega)
                have h3 : (((2 : Nat) ^ (B - s) : Nat) : Int) ≤ (((2 : Nat) ^ 6 : Nat) : Int) := Int.ofNat_le.2 this
                rw [Int.natCast_pow, Int.natCast_pow] at h3; exact h3
              have h5 : (2 : Int) ^ 6 = 64 := by decide
              omega
            · have : ¬ (B : Int) - s = 7 := fun h7 => hbad (.inr ⟨h7, by omega⟩)
              omega
          obtain ⟨g1, g2, g3, g4⟩ := ih (p + 1) (s + 7) _ (by omega) hs7 hn.1 hn.2 n q h
          exact ⟨g1, g2, by omega, g4⟩
    · rw [numF_end hend] at h; cases h

/-- The signed number that a number encodes. -/
def unz (n : Int) : Int := if n % 2 = 0 then n / 2 else -(n / 2) - 1

theorem xor_i64_zero (x : Int) (h0 : -9223372036854775808 ≤ x) (h1 : x ≤ 9223372036854775807) : Go.bits .xor .i64 x 0 = x := by
  show IntKind.i64.wrap ((BitVec.ofInt 64 x ^^^ BitVec.ofInt 64 0).toNat : Int) = _
  rw [show BitVec.ofInt 64 0 = 0#64 from rfl, BitVec.xor_zero, BitVec.toNat_ofInt, IntKind.wrap_i64]
  omega
theorem xor_i64_ones (x : Int) (h0 : -9223372036854775808 ≤ x) (h1 : x ≤ 9223372036854775807) : Go.bits .xor .i64 x (-1) = -x - 1 := by
  show IntKind.i64.wrap ((BitVec.ofInt 64 x ^^^ BitVec.ofInt 64 (-1)).toNat : Int) = _
  rw [show BitVec.ofInt 64 (-1) = BitVec.allOnes 64 from rfl, BitVec.xor_allOnes, BitVec.toNat_not, BitVec.toNat_ofInt, IntKind.wrap_i64]
  omega

theorem unz_xor (n : Int) (h0 : 0 ≤ n) (h1 : n < 18446744073709551616) : Go.bits .xor .i64 (n / 2) (-(n % 2)) = unz n := by
  unfold unz
  have : n % 2 = 0 ∨ n % 2 = 1 := by omega
  rcases this with h | h
  · rw [h, if_pos rfl]; exact xor_i64_zero _ (by omega) (by omega)
  · rw [h, if_neg (by decide)]; exact xor_i64_ones _ (by omega) (by omega)

theorem and_one (n : Int) (h0 : 0 ≤ n) (h1 : n < 18446744073709551616) : Go.bits .and .u64 n 1 = n % 2 := by
  obtain ⟨m, rfl⟩ := Int.eq_ofNat_of_zero_le h0
  have := u64_and_nat m 1 (by omega) (by omega)
  rw [nat_mask1] at this
  rw [show (1 : Int) = ((1 : Nat) : Int) from rfl, this]; omega

/-- What a reading step hands back: a value, or a panic with an error. -/
def RetPost (α : Type) (enc : α → Value) (w0 w : World) (rb : Nat) (ok : Nat → Prop) (vin : Value) (e : Int) (inb : List Int) (x : Except Int (α × Nat)) (r : Ending) (w' : World) : Prop :=
  match x with
  | .ok (a, q) => r = .returned (enc a) ∧ RLeft w0 w rb ok vin e q inb w'
  | .error c => r = errPanic c ∧ ∃ q, RLeft w0 w rb ok vin e q inb w'
theorem RetPost.ok_mk {α : Type} {enc : α → Value} {w0 w w1 : World} {rb : Nat} {ok : Nat → Prop} {vin : Value} {e : Int} {inb : List Int} {x : Except Int (α × Nat)} {a : α} {q : Nat} (hx : x = .ok (a, q)) (h : RLeft w0 w rb ok vin e q inb w1) : RetPost α enc w0 w rb ok vin e inb x (.returned (enc a)) w1 := by subst hx; exact ⟨rfl, h⟩
theorem RetPost.err_mk {α : Type} {enc : α → Value} {w0 w w1 : World} {rb : Nat} {ok : Nat → Prop} {vin : Value} {e c : Int} {inb : List Int} {x : Except Int (α × Nat)} {q : Nat} (hx : x = .error c) (h : RLeft w0 w rb ok vin e q inb w1) : RetPost α enc w0 w rb ok vin e inb x (errPanic c) w1 := by subst hx; exact ⟨rfl, q, h⟩

def intF (inb : List Int) (p : Nat) : Except Int (Int × Nat) := match numF 64 inb p 0 0 with | .ok (n, q) => .ok (unz n, q) | .error c => .error c

theorem number_ok (w0 w : World) (rb : Nat) (ok : Nat → Prop) (vin : Value) (e : Int) (p : Nat) (inb : List Int) (B : Nat) (hBits : B = 63 ∨ B = 64) (hB : Below w0.heap.size w0 w) (hR : RdAt w w0.heap.size rb ok vin e p inb) {n : Int} {q : Nat} (h : numF B inb p 0 0 = .ok (n, q)) :
    Calls Try.prog 66 #[.pointer (some ⟨rb, 0, none⟩), .int .i64 (B : Int)] w (fun r w' => r = .returned (.int .u64 n) ∧ RLeft w0 w rb ok vin e q inb w') := by
  have := number_calls w0 w rb ok vin e p inb B hBits hB hR
  rw [h] at this; exact this
theorem number_err (w0 w : World) (rb : Nat) (ok : Nat → Prop) (vin : Value) (e : Int) (p : Nat) (inb : List Int) (B : Nat) (hBits : B = 63 ∨ B = 64) (hB : Below w0.heap.size w0 w) (hR : RdAt w w0.heap.size rb ok vin e p inb) {c : Int} (h : numF B inb p 0 0 = .error c) :
    Calls Try.prog 66 #[.pointer (some ⟨rb, 0, none⟩), .int .i64 (B : Int)] w (fun r w' => r = errPanic c ∧ ∃ q, RLeft w0 w rb ok vin e q inb w') := by
  have := number_calls w0 w rb ok vin e p inb B hBits hB hR
  rw [h] at this; exact this

end Go.Proofs.Ytmmmhkeecaangaa.Wire
namespace Go.Proofs.Ytmmmhkeecaangaa.Wire
open Go.RowKit Go.Proofs.YtmmmhkeecaangaaW.PrintWords Go.Proofs.YtmmmhkeecaangaaW.PrintLast Go.Proofs.YtmmmhkeecaangaaW.PrintMore
set_option linter.unusedVariables false
set_option linter.unusedSimpArgs false

def countF (limit : Int) (inb : List Int) (p : Nat) : Except Int (Int × Nat) :=
  match numF 63 inb p 0 0 with
  | .ok (n, q) => if limit < 0 then .error 2 else if limit < n then .error 7 else .ok (n, q)
  | .error c => .error c

theorem count_calls (w0 w : World) (rb : Nat) (ok : Nat → Prop) (vin : Value) (e : Int) (p : Nat) (inb : List Int) (limit : Int) (hl0 : -9223372036854775808 ≤ limit) (hl1 : limit ≤ 9223372036854775807) (hB : Below w0.heap.size w0 w) (hR : RdAt w w0.heap.size rb ok vin e p inb) :
    Calls Try.prog 64 #[.pointer (some ⟨rb, 0, none⟩), .int .i64 limit] w (RetPost Int (Value.int .i64) w0 w rb ok vin e inb (countF limit inb p)) := by
  have HB := Lib.hid hB
  have HR := Lib.hid hR
  have hby := hR.byte
  clear hB hR
  cases hn : numF 63 inb p 0 0 with
  | error c =>
    have HF := Lib.hid (show countF limit inb p = .error c by unfold countF; rw [hn])
    have HN := Lib.hid hn
    clear hn hby
    go_enter Try.func64, Try.ntmps64
    go_wp2_with (first | (go_at_call 66; (refine (number_err w0 _ rb ok vin e p inb 63 (.inl rfl) HB.out HR.out HN.out).mono ?_; rintro r w1 ⟨rfl, q, hL⟩; have HL := Aside0.mk hL; clear hL)))
    exact ⟨rfl, RetPost.err_mk HF.out HL.out⟩
  | ok nq =>
    obtain ⟨n, q⟩ := nq
    obtain ⟨h0, h1, _, _⟩ := numF_range (B := 63) (by omega) hby _ p 0 0 (Nat.le_refl _) (by omega) (by omega) (by decide) n q hn
    have h1 : n < 9223372036854775808 := h1
    have HN := Lib.hid hn
    clear hby
    by_cases c1 : limit < 0
    · have HF := Lib.hid (show countF limit inb p = .error 2 by unfold countF; rw [hn]; simp only [if_pos c1])
      have d1 : decide (limit < 0) = true := decide_eq_true c1
      clear hn c1
      go_enter Try.func64, Try.ntmps64
      go_wp2_with (first | (go_at_call 66; (refine (number_ok w0 _ rb ok vin e p inb 63 (.inl rfl) HB.out HR.out HN.out).mono ?_; rintro r w1 ⟨rfl, hL⟩; have HL := Aside0.mk hL; clear hL)))
      exact ⟨rfl, RetPost.err_mk HF.out HL.out⟩
    · have d1 : decide (limit < 0) = false := decide_eq_false c1
      by_cases c2 : limit < n
      · have HF := Lib.hid (show countF limit inb p = .error 7 by unfold countF; rw [hn]; simp only [if_neg c1, if_pos c2])
        have d2 : decide (limit < n) = true := decide_eq_true c2
        clear hn c1 c2
        go_enter Try.func64, Try.ntmps64
        go_wp2_with (first | (go_at_call 66; (refine (number_ok w0 _ rb ok vin e p inb 63 (.inl rfl) HB.out HR.out HN.out).mono ?_; rintro r w1 ⟨rfl, hL⟩; have HL := Aside0.mk hL; clear hL)))
        exact ⟨rfl, RetPost.err_mk HF.out HL.out⟩
      · have HF := Lib.hid (show countF limit inb p = .ok (n, q) by unfold countF; rw [hn]; simp only [if_neg c1, if_neg c2])
        have d2 : decide (limit < n) = false := decide_eq_false c2
        clear hn c1 c2
        go_enter Try.func64, Try.ntmps64
        go_wp2_with (first | (go_at_call 66; (refine (number_ok w0 _ rb ok vin e p inb 63 (.inl rfl) HB.out HR.out HN.out).mono ?_; rintro r w1 ⟨rfl, hL⟩; have HL := Aside0.mk hL; clear hL)))
        go_ret
        exact RetPost.ok_mk HF.out HL.out

/-- A variable that holds the reader's address. -/
def VarAt (w : World) (bx rb : Nat) : Prop := w.heap[bx]? = some (.cells #[.pointer (some ⟨rb, 0, none⟩)] 77 (0, 0))

def uintF (inb : List Int) (p : Nat) : Except Int (Int × Nat) := numF 63 inb p 0 0

theorem uint1_calls (w0 w : World) (bx rb : Nat) (ok : Nat → Prop) (vin : Value) (e : Int) (p : Nat) (inb : List Int) (hV : VarAt w bx rb) (hB : Below w0.heap.size w0 w) (hR : RdAt w w0.heap.size rb ok vin e p inb) :
    Calls Try.prog 65 #[.pointer (some ⟨bx, 0, none⟩)] w (RetPost Int (Value.int .i64) w0 w rb ok vin e inb (uintF inb p)) := by
  have hbx : w.cell? ⟨bx, 0, none⟩ = some (.pointer (some ⟨rb, 0, none⟩)) := (blk_cell hV 0).trans rfl
  have HB := Lib.hid hB
  have HR := Lib.hid hR
  have hby := hR.byte
  clear hB hR hV
  cases hn : numF 63 inb p 0 0 with
  | error c =>
    have HF := Lib.hid (show uintF inb p = .error c from hn)
    have HN := Lib.hid hn
    clear hn hby
    go_enter Try.func65, Try.ntmps65
    go_wp2_with (first | (go_at_call 66; (refine (number_err w0 _ rb ok vin e p inb 63 (.inl rfl) HB.out HR.out HN.out).mono ?_; rintro r w1 ⟨rfl, q, hL⟩; have HL := Aside0.mk hL; clear hL)))
    exact ⟨rfl, RetPost.err_mk HF.out HL.out⟩
  | ok nq =>
    obtain ⟨n, q⟩ := nq
    obtain ⟨h0, h1, _, _⟩ := numF_range (B := 63) (by omega) hby _ p 0 0 (Nat.le_refl _) (by omega) (by omega) (by decide) n q hn
    have h1 : n < 9223372036854775808 := h1
    have HF := Lib.hid (show uintF inb p = .ok (n, q) from hn)
    have HN := Lib.hid hn
    clear hn hby
    go_enter Try.func65, Try.ntmps65
    go_wp2_with (first | (go_at_call 66; (refine (number_ok w0 _ rb ok vin e p inb 63 (.inl rfl) HB.out HR.out HN.out).mono ?_; rintro r w1 ⟨rfl, hL⟩; have HL := Aside0.mk hL; clear hL)))
    go_ret
    exact RetPost.ok_mk HF.out HL.out

/-- A step's two ways, as contracts. -/
theorem ret_ok {α : Type} {enc : α → Value} {f : FuncId} {args : Array Value} {w0 w : World} {rb : Nat} {ok : Nat → Prop} {vin : Value} {e : Int} {inb : List Int} {x : Except Int (α × Nat)} {a : α} {q : Nat} (hx : x = .ok (a, q)) (h : Calls Try.prog f args w (RetPost α enc w0 w rb ok vin e inb x)) :
    Calls Try.prog f args w (fun r w' => r = .returned (enc a) ∧ RLeft w0 w rb ok vin e q inb w') := by subst hx; exact h
theorem ret_err {α : Type} {enc : α → Value} {f : FuncId} {args : Array Value} {w0 w : World} {rb : Nat} {ok : Nat → Prop} {vin : Value} {e : Int} {inb : List Int} {x : Except Int (α × Nat)} {c : Int} (hx : x = .error c) (h : Calls Try.prog f args w (RetPost α enc w0 w rb ok vin e inb x)) :
    Calls Try.prog f args w (fun r w' => r = errPanic c ∧ ∃ q, RLeft w0 w rb ok vin e q inb w') := by subst hx; exact h

/-- A variable that holds a limit. -/
def LimAt (w : World) (bl : Nat) (limit : Int) : Prop := w.heap[bl]? = some (.cells #[.int .i64 limit] 3 (0, 0))

theorem count1_calls (w0 w : World) (bx bl rb : Nat) (ok : Nat → Prop) (vin : Value) (e : Int) (p : Nat) (inb : List Int) (limit : Int) (hl0 : -9223372036854775808 ≤ limit) (hl1 : limit ≤ 9223372036854775807) (hV : VarAt w bx rb) (hM : LimAt w bl limit) (hB : Below w0.heap.size w0 w) (hR : RdAt w w0.heap.size rb ok vin e p inb) :
    Calls Try.prog 63 #[.pointer (some ⟨bx, 0, none⟩), .pointer (some ⟨bl, 0, none⟩)] w (RetPost Int (Value.int .i64) w0 w rb ok vin e inb (countF limit inb p)) := by
  have hbx : w.cell? ⟨bx, 0, none⟩ = some (.pointer (some ⟨rb, 0, none⟩)) := (blk_cell hV 0).trans rfl
  have hbl : w.cell? ⟨bl, 0, none⟩ = some (.int .i64 limit) := (blk_cell hM 0).trans rfl
  have hc := Lib.hid (count_calls w0 w rb ok vin e p inb limit hl0 hl1 hB hR)
  clear hB hR hV hM
  cases hn : countF limit inb p with
  | error c =>
    have HC := Lib.hid (ret_err hn hc.out)
    clear hn hc
    go_enter Try.func63, Try.ntmps63
    go_wp2_with (first | (go_at_call 64; (refine HC.out.mono ?_; rintro r w1 ⟨rfl, q, hL⟩; have HL := Aside0.mk hL; clear hL)))
    exact ⟨rfl, RetPost.err_mk rfl HL.out⟩
  | ok nq =>
    obtain ⟨n, q⟩ := nq
    have HC := Lib.hid (ret_ok hn hc.out)
    clear hn hc
    go_enter Try.func63, Try.ntmps63
    go_wp2_with (first | (go_at_call 64; (refine HC.out.mono ?_; rintro r w1 ⟨rfl, hL⟩; have HL := Aside0.mk hL; clear hL)))
    go_ret
    exact RetPost.ok_mk rfl HL.out

def boolF (inb : List Int) (p : Nat) : Except Int (Bool × Nat) :=
  if p < inb.length then (if 1 < inb.getD p 0 then .error 6 else .ok (inb.getD p 0 == 1, p + 1)) else .error 4

end Go.Proofs.Ytmmmhkeecaangaa.Wire
namespace Go.Proofs.Ytmmmhkeecaangaa.Wire
open Go.RowKit Go.Proofs.YtmmmhkeecaangaaW.PrintWords Go.Proofs.YtmmmhkeecaangaaW.PrintLast Go.Proofs.YtmmmhkeecaangaaW.PrintMore
set_option linter.unusedVariables false
set_option linter.unusedSimpArgs false

def bytesF (limit : Int) (inb : List Int) (p : Nat) : Except Int (List Int × Nat) :=
  match countF limit inb p with
  | .ok (n, q) => if (inb.length : Int) - q < n then .error 4 else .ok ((inb.take (q + n.toNat)).drop q, q + n.toNat)
  | .error c => .error c

/-- A reading step that hands back a row of its own. -/
def RowRet (k : IntKind) (t : TypeId) (w0 w : World) (rb : Nat) (ok : Nat → Prop) (vin : Value) (e : Int) (inb : List Int) (x : Except Int (List Int × Nat)) (r : Ending) (w' : World) : Prop :=
  match x with
  | .ok (l, q) => (∃ v', r = .returned v' ∧ (Kd.int k).R t w' w0.heap.size (fun k => w.heap.size ≤ k) v' l) ∧ RLeft w0 w rb ok vin e q inb w'
  | .error c => r = errPanic c ∧ ∃ q, RLeft w0 w rb ok vin e q inb w'
theorem RowRet.ok_mk {k : IntKind} {t : TypeId} {w0 w w1 : World} {rb : Nat} {ok : Nat → Prop} {vin : Value} {e : Int} {inb : List Int} {x : Except Int (List Int × Nat)} {l : List Int} {q : Nat} {v' : Value} (hx : x = .ok (l, q)) (hO : (Kd.int k).R t w1 w0.heap.size (fun k => w.heap.size ≤ k) v' l) (h : RLeft w0 w rb ok vin e q inb w1) : RowRet k t w0 w rb ok vin e inb x (.returned v') w1 := by subst hx; exact ⟨⟨_, rfl, hO⟩, h⟩
theorem RowRet.err_mk {k : IntKind} {t : TypeId} {w0 w w1 : World} {rb : Nat} {ok : Nat → Prop} {vin : Value} {e c : Int} {inb : List Int} {x : Except Int (List Int × Nat)} {q : Nat} (hx : x = .error c) (h : RLeft w0 w rb ok vin e q inb w1) : RowRet k t w0 w rb ok vin e inb x (errPanic c) w1 := by subst hx; exact ⟨rfl, q, h⟩

theorem VarAt.kept {w w' : World} {bx rb : Nat} {S : Nat → Prop} (h : VarAt w bx rb) (hk : Kept w w' S) (hne : ¬ S bx) : VarAt w' bx rb := blk_kept h hk hne
theorem LimAt.kept {w w' : World} {bl : Nat} {n : Int} {S : Nat → Prop} (h : LimAt w bl n) (hk : Kept w w' S) (hne : ¬ S bl) : LimAt w' bl n := blk_kept h hk hne
theorem RdAt.ne_var {w : World} {base bx rb : Nat} {ok : Nat → Prop} {vin : Value} {e : Int} {p : Nat} {inb : List Int} (h : RdAt w base rb ok vin e p inb) (hV : VarAt w bx rb) : bx ≠ rb := blk_ne hV h.blk (by decide)

theorem countF_range {limit : Int} {inb : List Int} {p : Nat} {n : Int} {q : Nat} (hby : ∀ x ∈ inb, 0 ≤ x ∧ x < 256) (h : countF limit inb p = .ok (n, q)) : 0 ≤ n ∧ n < 9223372036854775808 ∧ n ≤ limit ∧ p < q ∧ q ≤ inb.length := by
  unfold countF at h
  cases hn : numF 63 inb p 0 0 with
  | error c => rw [hn] at h; cases h
  | ok nq =>
    obtain ⟨m, r⟩ := nq
    rw [hn] at h
    simp only at h
    by_cases c1 : limit < 0
    · rw [if_pos c1] at h; cases h
    · rw [if_neg c1] at h
      by_cases c2 : limit < m
      · rw [if_pos c2] at h; cases h
      · rw [if_neg c2] at h
        cases h
        obtain ⟨h0, h1, h2, h3⟩ := numF_range (B := 63) (by omega) hby _ p 0 0 (Nat.le_refl _) (by omega) (by omega) (by decide) _ _ hn
        exact ⟨h0, h1, by omega, h2, h3⟩

end Go.Proofs.Ytmmmhkeecaangaa.Wire
namespace Go.Proofs.Ytmmmhkeecaangaa.Wire
open Go.RowKit Go.Proofs.YtmmmhkeecaangaaW.PrintWords Go.Proofs.YtmmmhkeecaangaaW.PrintLast Go.Proofs.YtmmmhkeecaangaaW.PrintMore
set_option linter.unusedVariables false
set_option linter.unusedSimpArgs false

theorem infoI : (Try.prog.info? 3).map (fun i => (i.zero, i.size, i.bytes)) = some (some (.int .i64 0), 1, 8) := by kernel_rfl

def listF (inb : List Int) : Nat → Nat → List Int → Except Int (List Int × Nat)
  | 0, q, acc => .ok (acc, q)
  | k + 1, q, acc => match intF inb q with | .ok (x, q') => listF inb k q' (acc ++ [x]) | .error c => .error c

def intsF (limit : Int) (inb : List Int) (p : Nat) : Except Int (List Int × Nat) :=
  match countF limit inb p with
  | .ok (n, q) => listF inb n.toNat q []
  | .error c => .error c

theorem intF_range {inb : List Int} {p : Nat} {n : Int} {q : Nat} (hby : ∀ x ∈ inb, 0 ≤ x ∧ x < 256) (h : intF inb p = .ok (n, q)) : inI64 n ∧ p < q ∧ q ≤ inb.length := by
  unfold intF at h
  cases hn : numF 64 inb p 0 0 with
  | error c => rw [hn] at h; cases h
  | ok nq =>
    obtain ⟨m, r⟩ := nq
    rw [hn] at h
    cases h
    obtain ⟨h0, h1, h2, h3⟩ := numF_range (B := 64) (by omega) hby _ p 0 0 (Nat.le_refl _) (by omega) (by omega) (by decide) _ _ hn
    have h1 : m < 18446744073709551616 := h1
    refine ⟨?_, h2, h3⟩
    unfold inI64 unz
    split <;> omega

end Go.Proofs.Ytmmmhkeecaangaa.Wire
namespace Go.Proofs.Ytmmmhkeecaangaa.Wire
open Go.RowKit Go.Proofs.YtmmmhkeecaangaaW.PrintWords Go.Proofs.YtmmmhkeecaangaaW.PrintLast Go.Proofs.YtmmmhkeecaangaaW.PrintMore
set_option linter.unusedVariables false
set_option linter.unusedSimpArgs false

def StartAt (w : World) (bs : Nat) (p : Nat) : Prop := w.heap[bs]? = some (.cells #[.int .i64 (p : Int)] 3 (0, 0))
theorem StartAt.kept {w w' : World} {bs : Nat} {p : Nat} {S : Nat → Prop} (h : StartAt w bs p) (hk : Kept w w' S) (hne : ¬ S bs) : StartAt w' bs p := blk_kept h hk hne
theorem fail0_calls (b : Nat) (cs : Array Value) (t : TypeId) (o : Nat) (c : Int) (w : World) (hb : w.heap[b]? = some (.cells cs t (0, 0))) (hc : cs[o]? = some (.int .i64 0)) :
    Calls Try.prog 57 #[.pointer (some ⟨b, o, none⟩), .int .i64 c] w fun r w' => r = .returned (.tuple #[]) ∧ w.setCell ⟨b, o, none⟩ (.int .i64 c) = w' :=
  (fail_calls b cs t o 0 c w hb hc).mono fun r w' h => ⟨h.1, by have := h.2; rw [if_pos rfl] at this; exact this.symm⟩

theorem none_calls (w : World) (base rb : Nat) (ok : Nat → Prop) (vin : Value) (e : Int) (p : Nat) (inb : List Int) (hR : RdAt w base rb ok vin e p inb) :
    Calls Try.prog 70 #[.pointer (some ⟨rb, 0, none⟩)] w (fun r w' => r = .returned (.bool false) ∧ w = w') := by
  have hcell3 : w.cell? ⟨rb, 3, none⟩ = some (.bool true) := (blk_cell hR.blk 3).trans rfl
  clear hR
  go_enter Try.func70, Try.ntmps70
  go_wp2
  go_ret
  exact ⟨rfl, rfl⟩

theorem RLeft_left {w0 w w1 w2 : World} {rb : Nat} {ok : Nat → Prop} {vin : Value} {e : Int} {p : Nat} {inb : List Int} (hk : Kept w w1 (fun _ => False)) (h : RLeft w0 w1 rb ok vin e p inb w2) : RLeft w0 w rb ok vin e p inb w2 :=
  ⟨h.rd, h.below, (hk.mono (fun _ h => h.elim)).then_ h.kept (fun _ h => .inl h)⟩
def ValPost (α : Type) (enc : α → Value) (zero : α) (w0 w : World) (rb : Nat) (ok : Nat → Prop) (vin : Value) (e : Int) (p : Nat) (inb : List Int) (x : Except Int (α × Nat)) (r : Ending) (w' : World) : Prop :=
  if e = 0 then
    match x with
    | .ok (a, q) => r = .returned (enc a) ∧ RLeft w0 w rb ok vin 0 q inb w'
    | .error c => r = .returned (enc zero) ∧ RLeft w0 w rb ok vin c p inb w'
  else r = .returned (enc zero) ∧ RLeft w0 w rb ok vin e p inb w'
theorem ValPost.mk_ok {α : Type} {enc : α → Value} {zero : α} {w0 w w1 : World} {rb : Nat} {ok : Nat → Prop} {vin : Value} {p : Nat} {inb : List Int} {x : Except Int (α × Nat)} {a : α} {q : Nat} (hx : x = .ok (a, q)) (h : RLeft w0 w rb ok vin 0 q inb w1) : ValPost α enc zero w0 w rb ok vin 0 p inb x (.returned (enc a)) w1 := by subst hx; exact ⟨rfl, h⟩
theorem ValPost.mk_err {α : Type} {enc : α → Value} {zero : α} {w0 w w1 : World} {rb : Nat} {ok : Nat → Prop} {vin : Value} {p : Nat} {inb : List Int} {x : Except Int (α × Nat)} {c : Int} (hx : x = .error c) (h : RLeft w0 w rb ok vin c p inb w1) : ValPost α enc zero w0 w rb ok vin 0 p inb x (.returned (enc zero)) w1 := by subst hx; exact ⟨rfl, h⟩
theorem ValPost.mk_none {α : Type} {enc : α → Value} {zero : α} {w0 w w1 : World} {rb : Nat} {ok : Nat → Prop} {vin : Value} {e : Int} {p : Nat} {inb : List Int} {x : Except Int (α × Nat)} (he : e ≠ 0) (h : RLeft w0 w rb ok vin e p inb w1) : ValPost α enc zero w0 w rb ok vin e p inb x (.returned (enc zero)) w1 := by unfold ValPost; rw [if_neg he]; exact ⟨rfl, h⟩

theorem wp_frame {P : Program} {c : Code} {Q : Exit → Act → World → Prop} {t t' : Array Value} {w : World} (ht : t = t') (h : c.wp P Q { tmps := t', defers := [] } w) : c.wp P Q { tmps := t, defers := [] } w := ht ▸ h
theorem wp_gen {P : Program} {c : Code} {Q : Exit → Act → World → Prop} {a : Act} {w : World} (h : ∀ Q' : Exit → Act → World → Prop, Hid (∀ e a w, Q e a w → Q' e a w) → c.wp P Q' a w) : c.wp P Q a w := h Q (fun _ _ _ h => h)

def CatchPostInt (w0 w : World) (rb : Nat) (ok : Nat → Prop) (vin : Value) (c : Int) (p : Nat) (inb : List Int) (older : List PanicEntry) (e : Ending) (u' : FrameMode) (w' : World) : Prop :=
  e = .returned (.tuple #[]) ∧ u' = .panicking ({ v := .iface 23 (.int .i64 c), recovered := true } :: older) ∧ RLeft w0 w rb ok vin c p inb w'

theorem catchInt (w0 w : World) (bs bx rb : Nat) (ok : Nat → Prop) (vin : Value) (c : Int) (p q : Nat) (inb : List Int) (older : List PanicEntry) (hV : VarAt w bx rb) (hS : StartAt w bs p) (hp : p ≤ inb.length) (hB : Below w0.heap.size w0 w) (hR : RdAt w w0.heap.size rb ok vin 0 q inb) :
    CallsD Try.prog 71 #[.pointer (some ⟨bs, 0, none⟩), .pointer (some ⟨bx, 0, none⟩)] (.panicking ({ v := .iface 23 (.int .i64 c), recovered := false } :: older)) w (CatchPostInt w0 w rb ok vin c p inb older) := by
  refine callsD_of_wpS Try.func71 rfl fun c₀ cs hu => ?_
  apply wpS_seq
  apply wpS_region
  simp [wpOpsS, go_sem, recoverD, hu, Try.ntmps71, Exit.thenS]
  refine wpS_of_wp ?_
  refine wp_gen (fun Q hQ => ?_)
  refine wp_frame (t' := #[.pointer (some ⟨bs, 0, none⟩), .pointer (some ⟨bx, 0, none⟩), undef, undef, undef, .iface 23 (.int .i64 c), undef, undef, undef, undef, undef, undef, undef, undef, undef, undef, undef, undef, undef, undef]) (by kernel_rfl) ?_
  have hbx : w.cell? ⟨bx, 0, none⟩ = some (.pointer (some ⟨rb, 0, none⟩)) := (blk_cell hV 0).trans rfl
  have hbs : w.cell? ⟨bs, 0, none⟩ = some (.int .i64 p) := (blk_cell hS 0).trans rfl
  have hfr : w.frozen? ⟨rb, 2, none⟩ = false := blk_frozen hR.blk 2
  have hcl : w.cell? ⟨rb, 2, none⟩ = some (.int .i64 q) := (blk_cell hR.blk 2).trans rfl
  have hV2 : (w.setCell ⟨rb, 2, none⟩ (.int .i64 (p : Int))).cell? ⟨bx, 0, none⟩ = some (.pointer (some ⟨rb, 0, none⟩)) := by
    rw [cell_far (p := ⟨rb, 2, none⟩) (a := ⟨bx, 0, none⟩) (hR.ne_var hV)]; exact hbx
  have HR := Lib.hid hR
  have HB := Lib.hid hB
  have HU := Lib.hid hu
  clear hR hB hV hS hu
  have he : ∀ w : World, (binOp .eql 20 (.iface 23 (.int .i64 c)) .nilIface).run Try.prog w = .ok (.bool false) w := fun w => run_eql_held_nil w 20 23 _ (by kernel_rfl)
  have hta : ∀ w : World, (Instr.typeAssert (.iface 23 (.int .i64 c)) 20 23 true).run Try.prog w = .ok (.tuple #[.int .i64 c, .bool true]) w := fun w => by kernel_rfl
  go_wp2_with (first | (go_at_call 57; (refine (fail0_calls _ _ _ _ _ _ (HR.out.setP p hp).blk rfl).mono ?_; rintro r w' ⟨rfl, rfl⟩)))
  refine hQ.out _ _ _ ?_
  exact ⟨rfl, _, rfl, .tuple #[], by simp [results, Try.results71], rfl, rfl, (HR.out.setP p hp).setE c, (HB.out.setCell HR.out.hb _).setCell HR.out.hb _, Kept.setCell (S := fun k => k = rb) (Kept.setCell (S := fun k => k = rb) (Kept.refl w _) (p := ⟨rb, 2, none⟩) (.inl rfl) _) (p := ⟨rb, 0, none⟩) (.inl rfl) _⟩

theorem idleInt (bs bx : Nat) (w : World) :
    CallsD Try.prog 71 #[.pointer (some ⟨bs, 0, none⟩), .pointer (some ⟨bx, 0, none⟩)] .returning w (fun e u' w' => e = .returned (.tuple #[]) ∧ u' = .returning ∧ w = w') := by
  refine callsD_of_wpS Try.func71 rfl fun c₀ cs hu => ?_
  apply wpS_seq
  apply wpS_region
  simp [wpOpsS, go_sem, recoverD, hu, Try.ntmps71, Exit.thenS]
  refine wpS_of_wp ?_
  refine wp_gen (fun Q hQ => ?_)
  refine wp_frame (t' := #[.pointer (some ⟨bs, 0, none⟩), .pointer (some ⟨bx, 0, none⟩), undef, undef, undef, .nilIface, undef, undef, undef, undef, undef, undef, undef, undef, undef, undef, undef, undef, undef, undef]) (by kernel_rfl) ?_
  have he : ∀ w : World, (binOp .eql 20 .nilIface .nilIface).run Try.prog w = .ok (.bool true) w := fun w => run_eql_nil_nil w 20 (by kernel_rfl)
  have HU := Lib.hid hu
  clear hu
  go_wp2
  refine hQ.out _ _ _ ?_
  exact ⟨rfl, .returning, by rw [← HU.out], .tuple #[], by simp [results, Try.results71], rfl, rfl, rfl⟩

set_option maxHeartbeats 1000000 in
theorem valueInt (w0 w : World) (rb : Nat) (ok : Nat → Prop) (vin : Value) (e : Int) (p : Nat) (inb : List Int) (f : FuncId) (cap : Array Value) (x : Except Int (Int × Nat)) (hB : Below w0.heap.size w0 w) (hR : RdAt w w0.heap.size rb ok vin e p inb)
    (hen : ∀ w : World, (callFunc f cap).run Try.prog w = .ok (.enter f cap) w)
    (hcall : ∀ w1, Below w0.heap.size w0 w1 → RdAt w1 w0.heap.size rb ok vin 0 p inb → Kept w w1 (fun _ => False) → Calls Try.prog f cap w1 (RetPost Int (Value.int .i64) w0 w1 rb ok vin 0 inb x)) :
    Calls Try.prog 62 #[.pointer (some ⟨rb, 0, none⟩), .func (.func f) #[] cap] w (ValPost Int (Value.int .i64) (0 : Int) w0 w rb ok vin e p inb x) := by
  have HN := Lib.hid (fun w1 (h : Kept w w1 (fun _ => False)) => none_calls w1 w0.heap.size rb ok vin e p inb (hR.kept h id (fun _ _ => id)))
  have HR := Lib.hid hR
  have HB := Lib.hid hB
  have HC := Lib.hid hcall
  have hcell0 : w.cell? ⟨rb, 0, none⟩ = some (.int .i64 e) := (blk_cell hR.blk 0).trans rfl
  have hcell0' : (w.alloc (.cells #[.pointer (some ⟨rb, 0, none⟩)] 77)).cell? ⟨rb, 0, none⟩ = some (.int .i64 e) := (blk_cell (blk_alloc hR.blk _) 0).trans rfl
  clear hR hB hcall
  have HA := Lib.hid ((Kept.refl w (fun _ => False)).alloc (.cells #[.pointer (some ⟨rb, 0, none⟩)] 77))
  by_cases he : e = 0
  · subst he
    have hcell2' : (w.alloc (.cells #[.pointer (some ⟨rb, 0, none⟩)] 77)).cell? ⟨rb, 2, none⟩ = some (.int .i64 p) := (blk_cell (blk_alloc HR.out.blk _) 2).trans rfl
    have hmf : ∀ (fn : Fn) (first cap : Array Value) (w : World), (Instr.makeFunc fn first cap).run Try.prog w = .ok (.func fn first cap) w := fun _ _ _ _ => rfl
    have HA2 := Lib.hid (HA.out.alloc (.cells #[.int .i64 (p : Int)] 3))
    have hrb := blk_lt HR.out.blk
    have hvne : ¬ (w.heap.size = rb) := by omega
    have hsne : ¬ (w.heap.size + 1 = rb) := by omega
    have HV := Lib.hid (show VarAt ((w.alloc (.cells #[.pointer (some ⟨rb, 0, none⟩)] 77)).alloc (.cells #[.int .i64 (p : Int)] 3)) w.heap.size rb from blk_alloc (blk_new _ _) _)
    have HS := Lib.hid (show StartAt ((w.alloc (.cells #[.pointer (some ⟨rb, 0, none⟩)] 77)).alloc (.cells #[.int .i64 (p : Int)] 3)) (w.heap.size + 1) p by have := blk_new (w.alloc (.cells #[.pointer (some ⟨rb, 0, none⟩)] 77)) (.cells #[.int .i64 (p : Int)] 3); simpa [StartAt] using this)
    have hc := Lib.hid (HC.out _ (below_alloc' (below_alloc' HB.out _) _) (HR.out.kept HA2.out id (fun _ _ => id)) HA2.out)
    cases x with
    | error c =>
      have hc2 := Lib.hid (ret_err rfl hc.out)
      clear hc HC
      go_enter_defers Try.func62, Try.ntmps62
      go_wp2_with (first | (go_at_call 70; (refine (HN.out _ HA.out).mono ?_; rintro r w' ⟨rfl, rfl⟩)) | (go_at_call 60; (refine (broken_calls _ _ _ _ hcell0').mono ?_; rintro r w' ⟨rfl, rfl⟩)) | (refine hc2.out.mono ?_; rintro r w2 ⟨rfl, q, hL⟩; have HL := Aside0.mk hL; clear hL))
      refine leaves_cons (f := 71) (args := #[.pointer (some ⟨w.heap.size + 1, 0, none⟩), .pointer (some ⟨w.heap.size, 0, none⟩)]) (by simp) (by simp [go_sem]) ?_
      refine (catchInt w0 w2 (w.heap.size + 1) w.heap.size rb ok vin c p q inb [] (HV.out.kept HL.out.kept hvne) (HS.out.kept HL.out.kept hsne) HR.out.le HL.out.below HL.out.rd).mono ?_
      rintro e u' w3 ⟨rfl, rfl, hL3⟩
      have HL3 := Aside0.mk (RLeft_left HA2.out (HL.out.trans hL3))
      clear hL3
      exact ⟨_, results_tmp rfl _ _ _, ValPost.mk_err rfl HL3.out⟩
    | ok aq =>
      obtain ⟨a, q⟩ := aq
      have hc2 := Lib.hid (ret_ok rfl hc.out)
      clear hc HC
      go_enter_defers Try.func62, Try.ntmps62
      go_wp2_with (first | (go_at_call 70; (refine (HN.out _ HA.out).mono ?_; rintro r w' ⟨rfl, rfl⟩)) | (go_at_call 60; (refine (broken_calls _ _ _ _ hcell0').mono ?_; rintro r w' ⟨rfl, rfl⟩)) | (refine hc2.out.mono ?_; rintro r w2 ⟨rfl, hL⟩; have HL := Aside0.mk hL; clear hL))
      refine leaves_cons (f := 71) (args := #[.pointer (some ⟨w.heap.size + 1, 0, none⟩), .pointer (some ⟨w.heap.size, 0, none⟩)]) (by simp) (by simp [go_sem]) ?_
      refine (idleInt (w.heap.size + 1) w.heap.size w2).mono ?_
      rintro e u' w3 ⟨rfl, rfl, rfl⟩
      exact ⟨_, results_tmp rfl _ _ _, ValPost.mk_ok rfl (RLeft_left HA2.out HL.out)⟩
  · have hen2 : (e != 0) = true := by simpa using he
    clear hen HC
    go_enter_defers Try.func62, Try.ntmps62
    go_wp2_with (first | (go_at_call 70; (refine (HN.out _ HA.out).mono ?_; rintro r w' ⟨rfl, rfl⟩)) | (go_at_call 60; (refine (broken_calls _ _ _ _ hcell0').mono ?_; rintro r w' ⟨rfl, rfl⟩)))
    exact ⟨_, results_tmp rfl _ _ _, ValPost.mk_none he (RLeft_left HA.out (RLeft.refl (HR.out.kept HA.out id (fun _ _ => id)) (below_alloc' HB.out _)))⟩

def CatchPostBool (w0 w : World) (rb : Nat) (ok : Nat → Prop) (vin : Value) (c : Int) (p : Nat) (inb : List Int) (older : List PanicEntry) (e : Ending) (u' : FrameMode) (w' : World) : Prop :=
  e = .returned (.tuple #[]) ∧ u' = .panicking ({ v := .iface 23 (.int .i64 c), recovered := true } :: older) ∧ RLeft w0 w rb ok vin c p inb w'

def RowValPost (k : IntKind) (t : TypeId) (w0 w : World) (rb : Nat) (ok : Nat → Prop) (vin : Value) (e : Int) (p : Nat) (inb : List Int) (x : Except Int (List Int × Nat)) (r : Ending) (w' : World) : Prop :=
  if e = 0 then
    match x with
    | .ok (l, q) => (∃ v', r = .returned v' ∧ (Kd.int k).R t w' w0.heap.size (fun k => w.heap.size ≤ k) v' l) ∧ RLeft w0 w rb ok vin 0 q inb w'
    | .error c => r = .returned (.slice none 0 0) ∧ RLeft w0 w rb ok vin c p inb w'
  else r = .returned (.slice none 0 0) ∧ RLeft w0 w rb ok vin e p inb w'
theorem RowValPost.mk_ok {k : IntKind} {t : TypeId} {w0 w w1 : World} {rb : Nat} {ok : Nat → Prop} {vin v' : Value} {p : Nat} {inb : List Int} {x : Except Int (List Int × Nat)} {l : List Int} {q : Nat} (hx : x = .ok (l, q)) (hO : (Kd.int k).R t w1 w0.heap.size (fun k => w.heap.size ≤ k) v' l) (h : RLeft w0 w rb ok vin 0 q inb w1) : RowValPost k t w0 w rb ok vin 0 p inb x (.returned v') w1 := by subst hx; exact ⟨⟨_, rfl, hO⟩, h⟩
theorem RowValPost.mk_err {k : IntKind} {t : TypeId} {w0 w w1 : World} {rb : Nat} {ok : Nat → Prop} {vin : Value} {p : Nat} {inb : List Int} {x : Except Int (List Int × Nat)} {c : Int} (hx : x = .error c) (h : RLeft w0 w rb ok vin c p inb w1) : RowValPost k t w0 w rb ok vin 0 p inb x (.returned (.slice none 0 0)) w1 := by subst hx; exact ⟨rfl, h⟩
theorem RowValPost.mk_none {k : IntKind} {t : TypeId} {w0 w w1 : World} {rb : Nat} {ok : Nat → Prop} {vin : Value} {e : Int} {p : Nat} {inb : List Int} {x : Except Int (List Int × Nat)} (he : e ≠ 0) (h : RLeft w0 w rb ok vin e p inb w1) : RowValPost k t w0 w rb ok vin e p inb x (.returned (.slice none 0 0)) w1 := by unfold RowValPost; rw [if_neg he]; exact ⟨rfl, h⟩
theorem row_ok {k : IntKind} {t : TypeId} {f : FuncId} {args : Array Value} {w0 w : World} {rb : Nat} {ok : Nat → Prop} {vin : Value} {e : Int} {inb : List Int} {x : Except Int (List Int × Nat)} {l : List Int} {q : Nat} (hx : x = .ok (l, q)) (h : Calls Try.prog f args w (RowRet k t w0 w rb ok vin e inb x)) :
    Calls Try.prog f args w (fun r w' => (∃ v', r = .returned v' ∧ (Kd.int k).R t w' w0.heap.size (fun k => w.heap.size ≤ k) v' l) ∧ RLeft w0 w rb ok vin e q inb w') := by subst hx; exact h
theorem row_err {k : IntKind} {t : TypeId} {f : FuncId} {args : Array Value} {w0 w : World} {rb : Nat} {ok : Nat → Prop} {vin : Value} {e : Int} {inb : List Int} {x : Except Int (List Int × Nat)} {c : Int} (hx : x = .error c) (h : Calls Try.prog f args w (RowRet k t w0 w rb ok vin e inb x)) :
    Calls Try.prog f args w (fun r w' => r = errPanic c ∧ ∃ q, RLeft w0 w rb ok vin e q inb w') := by subst hx; exact h

def CatchPostBytes (w0 w : World) (rb : Nat) (ok : Nat → Prop) (vin : Value) (c : Int) (p : Nat) (inb : List Int) (older : List PanicEntry) (e : Ending) (u' : FrameMode) (w' : World) : Prop :=
  e = .returned (.tuple #[]) ∧ u' = .panicking ({ v := .iface 23 (.int .i64 c), recovered := true } :: older) ∧ RLeft w0 w rb ok vin c p inb w'

def CatchPostInts (w0 w : World) (rb : Nat) (ok : Nat → Prop) (vin : Value) (c : Int) (p : Nat) (inb : List Int) (older : List PanicEntry) (e : Ending) (u' : FrameMode) (w' : World) : Prop :=
  e = .returned (.tuple #[]) ∧ u' = .panicking ({ v := .iface 23 (.int .i64 c), recovered := true } :: older) ∧ RLeft w0 w rb ok vin c p inb w'

end Go.Proofs.Ytmmmhkeecaangaa.Wire
namespace Go.Proofs.Ytmmmhkeecaangaa.Wire
open Go.RowKit Go.Proofs.YtmmmhkeecaangaaW.PrintWords Go.Proofs.YtmmmhkeecaangaaW.PrintLast Go.Proofs.YtmmmhkeecaangaaW.PrintMore
set_option linter.unusedVariables false
set_option linter.unusedSimpArgs false

theorem enters {f : FuncId} {fn : Func} {c : Code} (hf : Try.prog.funcs[f]? = some fn) (hname : (fn.name == "runtime.NumGoroutine") = false) (hb : fn.body = some c) (args : Array Value) (w : World) : (callFunc f args).run Try.prog w = .ok (.enter f args) w := by
  have h2 : fn.name ≠ "runtime.NumGoroutine" := by simpa using hname
  simp [callFunc, hf, hb, go_sem, h2]

theorem VarAt.new (w : World) (rb : Nat) : VarAt (w.alloc (.cells #[.pointer (some ⟨rb, 0, none⟩)] 77)) w.heap.size rb := blk_new _ _
theorem ValPost.after {α : Type} {enc : α → Value} {zero : α} {w0 w w1 w2 : World} {rb : Nat} {ok : Nat → Prop} {vin : Value} {e : Int} {p : Nat} {inb : List Int} {x : Except Int (α × Nat)} {r : Ending} (hk : Kept w w1 (fun _ => False)) (h : ValPost α enc zero w0 w1 rb ok vin e p inb x r w2) : ValPost α enc zero w0 w rb ok vin e p inb x r w2 := by
  unfold ValPost at *
  split at h
  · rename_i he
    rw [if_pos he]
    cases x with
    | error c => exact ⟨h.1, RLeft_left hk h.2⟩
    | ok aq => exact ⟨h.1, RLeft_left hk h.2⟩
  · rename_i he
    rw [if_neg he]; exact ⟨h.1, RLeft_left hk h.2⟩
/-- The value that is handed back, the error and the offset behind it. -/
def valR {α : Type} (zero : α) (e : Int) (x : Except Int (α × Nat)) : α := if e = 0 then (match x with | .ok (a, _) => a | .error _ => zero) else zero
def valE {α : Type} (e : Int) (x : Except Int (α × Nat)) : Int := if e = 0 then (match x with | .ok _ => 0 | .error c => c) else e
def valP {α : Type} (e : Int) (p : Nat) (x : Except Int (α × Nat)) : Nat := if e = 0 then (match x with | .ok (_, q) => q | .error _ => p) else p
theorem ValPost.out {α : Type} {enc : α → Value} {zero : α} {w0 w w1 : World} {rb : Nat} {ok : Nat → Prop} {vin : Value} {e : Int} {p : Nat} {inb : List Int} {x : Except Int (α × Nat)} {r : Ending} (h : ValPost α enc zero w0 w rb ok vin e p inb x r w1) :
    r = .returned (enc (valR zero e x)) ∧ RLeft w0 w rb ok vin (valE e x) (valP e p x) inb w1 := by
  unfold ValPost at h
  unfold valR valE valP
  by_cases he : e = 0
  · simp only [if_pos he] at *
    cases x with
    | error c => exact h
    | ok aq => exact h
  · simp only [if_neg he] at *; exact h
theorem RowValPost.out {k : IntKind} {t : TypeId} {w0 w w1 : World} {rb : Nat} {ok : Nat → Prop} {vin : Value} {e : Int} {p : Nat} {inb : List Int} {x : Except Int (List Int × Nat)} {r : Ending} (h : RowValPost k t w0 w rb ok vin e p inb x r w1) :
    (∃ v', r = .returned v' ∧ (Kd.int k).R t w1 w0.heap.size (fun k => w.heap.size ≤ k) v' (valR [] e x)) ∧ RLeft w0 w rb ok vin (valE e x) (valP e p x) inb w1 := by
  unfold RowValPost at h
  unfold valR valE valP
  by_cases he : e = 0
  · simp only [if_pos he] at *
    cases x with
    | error c => exact ⟨⟨_, h.1, Kd.R_nil _ _ _ _ _⟩, h.2⟩
    | ok aq => exact h
  · simp only [if_neg he] at *; exact ⟨⟨_, h.1, Kd.R_nil _ _ _ _ _⟩, h.2⟩

theorem rdUint_calls (w0 w : World) (rb : Nat) (ok : Nat → Prop) (vin : Value) (e : Int) (p : Nat) (inb : List Int) (hB : Below w0.heap.size w0 w) (hR : RdAt w w0.heap.size rb ok vin e p inb) :
    Calls Try.prog 49 #[.pointer (some ⟨rb, 0, none⟩)] w (fun r w' => r = .returned (.int .i64 (valR (0 : Int) e (uintF inb p))) ∧ RLeft w0 w rb ok vin (valE e (uintF inb p)) (valP e p (uintF inb p)) inb w') := by
  have hmf : ∀ (fn : Fn) (first cap : Array Value) (w : World), (Instr.makeFunc fn first cap).run Try.prog w = .ok (.func fn first cap) w := fun _ _ _ _ => rfl
  have hA := (Kept.refl w (fun _ => False)).alloc (.cells #[.pointer (some ⟨rb, 0, none⟩)] 77)
  have hrb := blk_lt hR.blk
  have HC := Lib.hid (valueInt w0 (w.alloc (.cells #[.pointer (some ⟨rb, 0, none⟩)] 77)) rb ok vin e p inb 65 #[.pointer (some ⟨w.heap.size, 0, none⟩)] (uintF inb p) (below_alloc' hB _) (hR.kept hA id (fun _ _ => id)) (enters Try.func65 (by kernel_rfl) rfl _) (fun w1 hB1 hR1 hK1 => uint1_calls w0 w1 w.heap.size rb ok vin 0 p inb ((VarAt.new w rb).kept hK1 id) hB1 hR1))
  have HA := Lib.hid hA
  clear hB hR hA
  go_enter Try.func49, Try.ntmps49
  go_wp2_with (first | (go_at_call 62; (refine HC.out.mono ?_; rintro r w1 hP; obtain ⟨hr, hL⟩ := (ValPost.after HA.out hP).out; subst hr; have HL := Aside0.mk hL; clear hP hL)))
  go_ret
  exact ⟨rfl, HL.out⟩

theorem rdCount_calls (w0 w : World) (rb : Nat) (ok : Nat → Prop) (vin : Value) (e : Int) (p : Nat) (inb : List Int) (limit : Int) (hl0 : -9223372036854775808 ≤ limit) (hl1 : limit ≤ 9223372036854775807) (hB : Below w0.heap.size w0 w) (hR : RdAt w w0.heap.size rb ok vin e p inb) :
    Calls Try.prog 48 #[.pointer (some ⟨rb, 0, none⟩), .int .i64 limit] w (fun r w' => r = .returned (.int .i64 (valR (0 : Int) e (countF limit inb p))) ∧ RLeft w0 w rb ok vin (valE e (countF limit inb p)) (valP e p (countF limit inb p)) inb w') := by
  have hmf : ∀ (fn : Fn) (first cap : Array Value) (w : World), (Instr.makeFunc fn first cap).run Try.prog w = .ok (.func fn first cap) w := fun _ _ _ _ => rfl
  have hA := ((Kept.refl w (fun _ => False)).alloc (.cells #[.pointer (some ⟨rb, 0, none⟩)] 77)).alloc (.cells #[.int .i64 limit] 3)
  have hrb := blk_lt hR.blk
  have hV : VarAt ((w.alloc (.cells #[.pointer (some ⟨rb, 0, none⟩)] 77)).alloc (.cells #[.int .i64 limit] 3)) w.heap.size rb := blk_alloc (VarAt.new w rb) _
  have hM : LimAt ((w.alloc (.cells #[.pointer (some ⟨rb, 0, none⟩)] 77)).alloc (.cells #[.int .i64 limit] 3)) (w.heap.size + 1) limit := by have := blk_new (w.alloc (.cells #[.pointer (some ⟨rb, 0, none⟩)] 77)) (.cells #[.int .i64 limit] 3); simpa [LimAt] using this
  have HC := Lib.hid (valueInt w0 ((w.alloc (.cells #[.pointer (some ⟨rb, 0, none⟩)] 77)).alloc (.cells #[.int .i64 limit] 3)) rb ok vin e p inb 63 #[.pointer (some ⟨w.heap.size, 0, none⟩), .pointer (some ⟨w.heap.size + 1, 0, none⟩)] (countF limit inb p) (below_alloc' (below_alloc' hB _) _) (hR.kept hA id (fun _ _ => id)) (enters Try.func63 (by kernel_rfl) rfl _) (fun w1 hB1 hR1 hK1 => count1_calls w0 w1 w.heap.size (w.heap.size + 1) rb ok vin 0 p inb limit hl0 hl1 (hV.kept hK1 id) (hM.kept hK1 id) hB1 hR1))
  have HA := Lib.hid hA
  clear hB hR hA hV hM
  go_enter Try.func48, Try.ntmps48
  go_wp2_with (first | (go_at_call 62; (refine HC.out.mono ?_; rintro r w1 hP; obtain ⟨hr, hL⟩ := (ValPost.after HA.out hP).out; subst hr; have HL := Aside0.mk hL; clear hP hL)))
  go_ret
  exact ⟨rfl, HL.out⟩

end Go.Proofs.Ytmmmhkeecaangaa.Wire
namespace Go.Proofs.Ytmmmhkeecaangaa.Wire
open Go.RowKit Go.Proofs.YtmmmhkeecaangaaW.PrintWords Go.Proofs.YtmmmhkeecaangaaW.PrintLast Go.Proofs.YtmmmhkeecaangaaW.PrintMore
set_option linter.unusedVariables false
set_option linter.unusedSimpArgs false

theorem rdErr_calls (w : World) (base rb : Nat) (ok : Nat → Prop) (vin : Value) (e : Int) (p : Nat) (inb : List Int) (hR : RdAt w base rb ok vin e p inb) :
    Calls Try.prog 67 #[.pointer (some ⟨rb, 0, none⟩)] w (fun r w' => r = .returned (.int .i64 e) ∧ w = w') := by
  have hcell : w.cell? ⟨rb, 0, none⟩ = some (.int .i64 e) := (blk_cell hR.blk 0).trans rfl
  have HN := Lib.hid (none_calls w base rb ok vin e p inb hR)
  clear hR
  go_enter Try.func67, Try.ntmps67
  go_wp2_with (first | (go_at_call 70; (refine HN.out.mono ?_; rintro r w' ⟨rfl, rfl⟩)))
  go_ret
  exact ⟨rfl, rfl⟩

def endE (e : Int) (p : Nat) (inb : List Int) : Int := if e ≠ 0 ∨ p = inb.length then e else 5

theorem rdEnd_calls (w : World) (base rb : Nat) (ok : Nat → Prop) (vin : Value) (e : Int) (p : Nat) (inb : List Int) (hR : RdAt w base rb ok vin e p inb) :
    Calls Try.prog 50 #[.pointer (some ⟨rb, 0, none⟩)] w (fun r w' => r = .returned (.int .i64 (endE e p inb)) ∧ ∃ n, w' = w.drewN n) := by
  have hcell1 : w.cell? ⟨rb, 1, none⟩ = some vin := (blk_cell hR.blk 1).trans rfl
  have hcell2 : w.cell? ⟨rb, 2, none⟩ = some (.int .i64 p) := (blk_cell hR.blk 2).trans rfl
  obtain ⟨A1, c1, rfl⟩ := Kd.R_slice hR.own
  have HN := Lib.hid (rdErr_calls w base rb ok _ e p inb hR)
  have hle := hR.le
  have hlen := hR.len
  clear hR
  by_cases he : e = 0
  · subst he
    by_cases hp : p = inb.length
    · have HE := Lib.hid (show endE 0 p inb = 0 by unfold endE; rw [if_pos (.inr hp)])
      have t1 : (((p : Nat) : Int) == ((inb.length : Nat) : Int)) = true := by rw [beq_iff_eq]; omega
      have t2 : (p == inb.length) = true := by rw [beq_iff_eq]; omega
      clear hp
      go_enter Try.func50, Try.ntmps50
      go_wp2_with (first | (go_at_call 67; (refine HN.out.mono ?_; rintro r w' ⟨rfl, rfl⟩)))
      go_quiet (fail)
      go_wp2
      go_ret
      exact ⟨by rw [HE.out]; rfl, _, rfl⟩
    · have HE := Lib.hid (show endE 0 p inb = 5 by unfold endE; rw [if_neg (by omega)])
      have t1 : (((p : Nat) : Int) == ((inb.length : Nat) : Int)) = false := by rw [beq_eq_false_iff_ne]; omega
      have t2 : (p == inb.length) = false := by rw [beq_eq_false_iff_ne]; omega
      clear hp
      go_enter Try.func50, Try.ntmps50
      go_wp2_with (first | (go_at_call 67; (refine HN.out.mono ?_; rintro r w' ⟨rfl, rfl⟩)))
      go_quiet (fail)
      go_wp2
      go_ret
      exact ⟨by rw [HE.out]; rfl, _, rfl⟩
  · have HE := Lib.hid (show endE e p inb = e by unfold endE; rw [if_pos (.inl he)])
    have t1 : (e != 0) = true := by simpa using he
    clear he
    go_enter Try.func50, Try.ntmps50
    go_wp2_with (first | (go_at_call 67; (refine HN.out.mono ?_; rintro r w' ⟨rfl, rfl⟩)))
    go_quiet (fail)
    go_wp2
    go_ret
    exact ⟨by rw [HE.out]; rfl, _, rfl⟩

theorem RdAt.new {w0 w : World} {rb : Nat} {v1 : Value} {inb : List Int} (h : w0.heap.size ≤ w.heap.size) (hO : (Kd.int .u8).R 5 w w0.heap.size (fun k => rb ≤ k ∧ k < w.heap.size) v1 inb) (hl : inb.length ≤ 1000000000) (hby : ∀ x ∈ inb, 0 ≤ x ∧ x < 256) :
    RdAt (w.alloc (.cells #[.int .i64 0, v1, .int .i64 0, .bool true] 101)) w0.heap.size w.heap.size (fun k => rb ≤ k ∧ k < w.heap.size) v1 0 0 inb :=
  ⟨h, blk_new _ _, Kd.R_alloc hO _, Nat.zero_le _, hl, hby⟩

/-- A new reader, in memory made since w. -/
def ReadPost (w0 w : World) (inb : List Int) (r : Ending) (w' : World) : Prop :=
  ∃ rb vin, r = .returned (.pointer (some ⟨rb, 0, none⟩)) ∧ w.heap.size ≤ rb ∧ rb < w'.heap.size ∧ RdAt w' w0.heap.size rb (fun k => w.heap.size ≤ k ∧ k < rb) vin 0 0 inb ∧ Below w0.heap.size w0 w' ∧ Kept w w' (fun _ => False)

theorem read_calls (w0 w : World) (b : List Int) (A : Option Addr) (c : Nat) (hB : Below w0.heap.size w0 w) (hC : (Kd.int .u8).C w A b.length b) (hl : b.length ≤ 1000000000) (hby : ∀ x ∈ b, 0 ≤ x ∧ x < 256) :
    Calls Try.prog 47 #[.slice A b.length c] w (ReadPost w0 w b) := by
  have HB := Aside0.mk hB
  have HC := Aside0.mk hC
  have HBY := Aside0.mk hby
  clear hB hC hby
  go_enter Try.func47, Try.ntmps47
  go_wp2_with (first | (go_at_call 61; (refine (clone_calls w0 _ b A c HB.out HC.out (by omega)).mono ?_; rintro r w1 ⟨v1, rfl, hO, hB1, hK⟩; obtain ⟨A2, c2, rfl⟩ := Kd.R_slice hO; have HO := Aside0.mk hO; have HB1 := Aside0.mk hB1; have HK := Aside0.mk hK; clear hO hB1 hK)))
  go_ret
  refine ⟨w1.heap.size, _, rfl, HK.out.1, by simp, RdAt.new HB1.out.size (Kd.R_mono (Kd.R_bound HO.out) (fun k hk => ⟨hk.1, hk.2.2.1⟩)) hl HBY.out, below_alloc' HB1.out _, HK.out.alloc _⟩
def failE (e c : Int) : Int := if e = 0 then c else e
/-- What Unframe hands back. -/
def unfK (b : List Int) : Int := valR (0 : Int) 0 (uintF b 0)
def unfE1 (b : List Int) : Int := valE 0 (uintF b 0)
def unfP1 (b : List Int) : Nat := valP 0 0 (uintF b 0)
def unfL (b : List Int) : List Int := valR [] (unfE1 b) (bytesF 65536 b (unfP1 b))
def unfE (b : List Int) : Int := endE (valE (unfE1 b) (bytesF 65536 b (unfP1 b))) (valP (unfE1 b) (unfP1 b) (bytesF 65536 b (unfP1 b))) b

def UnfPost (w0 w : World) (b : List Int) (r : Ending) (w' : World) : Prop :=
  ∃ v', r = .returned (.tuple #[.int .i64 (if unfE b = 0 then unfK b else 0), v', .int .i64 (unfE b)]) ∧ (Kd.int .u8).R 5 w' w0.heap.size (fun k => w.heap.size ≤ k) v' (if unfE b = 0 then unfL b else []) ∧ Below w0.heap.size w0 w' ∧ Kept w w' (fun _ => False)

theorem kept_new {w w1 w2 : World} {rb : Nat} (h : Kept w w1 (fun _ => False)) (hr : w.heap.size ≤ rb) (k : Kept w1 w2 (fun k => k = rb)) : Kept w w2 (fun _ => False) :=
  h.then_ k (fun _ hk => .inr (by omega))

end Go.Proofs.Ytmmmhkeecaangaa.Wire
