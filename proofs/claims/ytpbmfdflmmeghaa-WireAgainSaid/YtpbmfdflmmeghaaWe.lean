import Derived.Test.YtpbmfdflmmeghaaWd
import Derived.WalkSpells
namespace Go.Proofs.Ytpbmfdflmmeghaa.Wire
open Go.RowKit Go.Proofs.YtpbmfdflmmeghaaW.PrintWords Go.Proofs.YtpbmfdflmmeghaaW.PrintLast Go.Proofs.YtpbmfdflmmeghaaW.PrintMore
set_option linter.unusedVariables false
set_option linter.unusedSimpArgs false

def WPost (w0 w : World) (wb : Nat) (ok : Nat → Prop) (e' : Int) (out' : List Int) (r : Ending) (w' : World) : Prop :=
  r = .returned (.tuple #[]) ∧ ∃ v', WrAt w' w0.heap.size wb (fun k => ok k ∨ w.heap.size ≤ k) v' e' out' ∧ Below w0.heap.size w0 w' ∧ Kept w w' ok

theorem WrAt.kept {w w' : World} {base wb : Nat} {ok S : Nat → Prop} {v : Value} {e : Int} {out : List Int} (h : WrAt w base wb ok v e out) (hk : Kept w w' S) (hs : ∀ k, ok k → ¬ S k) : WrAt w' base wb ok v e out :=
  ⟨h.hb, h.okb, blk_kept h.blk hk (hs _ h.okb), Kd.R_kept h.own hk hs, h.le⟩

/-- What a call leaves, behind a step that only made memory. -/
theorem WPost.after {w0 w w1 : World} {wb : Nat} {ok : Nat → Prop} {e' : Int} {out' : List Int} {r : Ending} {w' : World} (hk : Kept w w1 (fun _ => False)) (h : WPost w0 w1 wb ok e' out' r w') : WPost w0 w wb ok e' out' r w' := by
  obtain ⟨hr, v', hW, hB, hK⟩ := h
  exact ⟨hr, v', hW.mono (fun k hk' => hk'.elim .inl (fun h => .inr (Nat.le_trans hk.1 h))), hB, (hk.mono (fun _ h => h.elim)).then_ hK (fun _ h => .inl h)⟩

theorem WPost.mk {w0 w : World} {wb : Nat} {ok : Nat → Prop} {v' : Value} {e' : Int} {out' : List Int} {w' : World}
    (hW : WrAt w' w0.heap.size wb (fun k => ok k ∨ w.heap.size ≤ k) v' e' out') (hB : Below w0.heap.size w0 w') (hK : Kept w w' ok) : WPost w0 w wb ok e' out' (.returned (.tuple #[])) w' := ⟨rfl, v', hW, hB, hK⟩

def uintE (e : Int) (out : List Int) (n : Int) : Int := if n < 0 then (if e = 0 then 2 else e) else putE e out (grp n.toNat)
def uintO (e : Int) (out : List Int) (n : Int) : List Int := if n < 0 then out else putO e out (grp n.toNat)

theorem uint_calls (w0 w : World) (wb : Nat) (ok : Nat → Prop) (v : Value) (e : Int) (out : List Int) (n : Int)
    (hB : Below w0.heap.size w0 w) (hW : WrAt w w0.heap.size wb ok v e out) (h0 : -9223372036854775808 ≤ n) (h1 : n ≤ 9223372036854775807) :
    Calls Try.prog 17 #[.pointer (some ⟨wb, 0, none⟩), .int .i64 n] w (WPost w0 w wb ok (uintE e out n) (uintO e out n)) := by
  have HW := Lib.hid hW
  have HB := Lib.hid hB
  clear hW hB
  by_cases h : n < 0
  · have c1 : decide (n < 0) = true := decide_eq_true h
    have HE := Lib.hid (show uintE e out n = (if e = 0 then 2 else e) ∧ uintO e out n = out by simp [uintE, uintO, h])
    clear h h0 h1
    go_enter Try.func17, Try.ntmps17
    go_wp2_with (first | (go_at_call 43; refine (fail_calls _ _ _ _ _ _ _ HW.out.blk rfl).mono ?_; rintro r w' ⟨rfl, hw⟩; have HF := Lib.hid hw; clear hw))
    go_end0
    rw [HE.out.1, HE.out.2]
    by_cases he : e = 0
    · have hw := HF.out
      rw [if_pos he] at hw; rw [if_pos he]
      subst hw
      exact .mk (HW.out.of_set 2) (HB.out.setCell HW.out.hb _) ((Kept.refl _ _).setCell (.inl HW.out.okb) _)
    · have hw := HF.out
      rw [if_neg he] at hw; rw [if_neg he]
      subst hw
      exact .mk (HW.out.mono (fun _ hk => .inl hk)) HB.out (Kept.refl _ _)
  · have c1 : decide (n < 0) = false := decide_eq_false h
    have HE := Lib.hid (show uintE e out n = putE e out (grp n.toNat) ∧ uintO e out n = putO e out (grp n.toNat) by simp [uintE, uintO, h])
    have h2 : 0 ≤ n := by omega
    have hg := Lib.hid (grp_len10 (n := n.toNat) (by omega))
    clear h
    go_enter Try.func17, Try.ntmps17
    go_wp2_with (first | (go_at_call 42; (refine (group_calls w0 _ (fun _ => False) _ [] _ (by omega) (by omega) HB.out (Kd.R_nil _ _ _ _ _) (by simp)).mono ?_; rintro e w1 ⟨v1, rfl, hO, hB1, hK⟩; rw [List.nil_append] at hO; obtain ⟨A2, c2, rfl⟩ := Kd.R_slice hO; have HO2 := Aside0.mk hO; have HB2 := Aside0.mk hB1; have HK2 := Aside0.mk hK; clear hO hB1 hK)) | (go_at_call 41; (refine (put_calls w0 _ wb ok v _ _ _ _ _ HB2.out (HW.out.kept HK2.out (fun _ _ => id)) ((Kd.R_reads' HO2.out).2.2) (by have := hg.out; omega)).mono ?_; rintro r w2 hP; have HP := Lib.hid (WPost.after HK2.out hP); obtain ⟨rfl, hP⟩ := hP; clear hP)))
    go_end0
    rw [HE.out.1, HE.out.2]
    exact HP.out

theorem int_calls (w0 w : World) (wb : Nat) (ok : Nat → Prop) (v : Value) (e : Int) (out : List Int) (n : Int)
    (hB : Below w0.heap.size w0 w) (hW : WrAt w w0.heap.size wb ok v e out) (h0 : -9223372036854775808 ≤ n) (h1 : n ≤ 9223372036854775807) :
    Calls Try.prog 18 #[.pointer (some ⟨wb, 0, none⟩), .int .i64 n] w (WPost w0 w wb ok (putE e out (grp (zig n))) (putO e out (grp (zig n)))) := by
  have HW := Lib.hid hW
  have HB := Lib.hid hB
  clear hW hB
  have hz := zig_lt n h0 h1
  have hg := Lib.hid (grp_len10 hz)
  go_enter Try.func18, Try.ntmps18
  go_wp2_with (first | (go_at_call 44; (refine (fold_calls _ _ h0 h1).mono ?_; rintro e w' ⟨rfl, rfl⟩)) | (go_at_call 42; (refine (group_calls w0 _ (fun _ => False) _ [] _ (by omega) (by omega) HB.out (Kd.R_nil _ _ _ _ _) (by simp)).mono ?_; rintro e w1 ⟨v1, rfl, hO, hB1, hK⟩; rw [List.nil_append, Int.toNat_natCast] at hO; obtain ⟨A2, c2, rfl⟩ := Kd.R_slice hO; have HO2 := Aside0.mk hO; have HB2 := Aside0.mk hB1; have HK2 := Aside0.mk hK; clear hO hB1 hK)) | (go_at_call 41; (refine (put_calls w0 _ wb ok v _ _ _ _ _ HB2.out (HW.out.kept HK2.out (fun _ _ => id)) ((Kd.R_reads' HO2.out).2.2) (by have := hg.out; omega)).mono ?_; rintro r w2 hP; have HP := Lib.hid (WPost.after HK2.out hP); obtain ⟨rfl, hP⟩ := hP; clear hP)))
  go_end0
  exact HP.out

theorem C_blk {k : IntKind} {w : World} {g t : Nat} {cs : Array Value} (h : w.heap[g]? = some (.cells cs t (0, 0))) (xs : List Int) (hc : cs.toList = xs.map (Value.int k)) (hx : xs.length ≤ 9223372036854775807) : (Kd.int k).C w (some ⟨g, 0, none⟩) xs.length xs := by
  refine Kd.C_of_reads (d := (0 : Int)) ⟨rfl, hx, fun _ => ⟨_, rfl, fun j hj => ?_⟩⟩
  rw [add_plain, blk_cell h, ← Array.getElem?_toList, hc]
  simp [List.getD, hj]

theorem below_alloc' {w0 w : World} (h : Below w0.heap.size w0 w) (o : Obj) : Below w0.heap.size w0 (w.alloc o) := h.alloc h.size o

def boolB (b : Bool) : List Int := [if b then 1 else 0]

theorem bool_calls (w0 w : World) (wb : Nat) (ok : Nat → Prop) (v : Value) (e : Int) (out : List Int) (b : Bool)
    (hB : Below w0.heap.size w0 w) (hW : WrAt w w0.heap.size wb ok v e out) :
    Calls Try.prog 16 #[.pointer (some ⟨wb, 0, none⟩), .bool b] w (WPost w0 w wb ok (putE e out (boolB b)) (putO e out (boolB b))) := by
  have HW := Lib.hid hW
  have HB := Lib.hid hB
  clear hW hB
  cases b with
  | false =>
    go_enter Try.func16, Try.ntmps16
    go_wp2_with (first | (go_at_call 41; (have hK2 := (Kept.refl w (fun _ => False)).alloc (.cells #[Value.int .u8 0] 5); refine (put_calls w0 _ wb ok v _ _ [0] _ _ (below_alloc' HB.out _) (HW.out.kept hK2 (fun _ _ => id)) (C_blk (blk_new _ _) [0] rfl (by simp)) (by simp)).mono ?_; rintro r w2 hP; have HP := Lib.hid (WPost.after hK2 hP); obtain ⟨rfl, hP⟩ := hP; clear hP; clear hK2)))
    go_end0
    exact HP.out
  | true =>
    go_enter Try.func16, Try.ntmps16
    go_wp2_with (first | (go_at_call 41; (have hK2 := (Kept.refl w (fun _ => False)).alloc (.cells #[Value.int .u8 1] 5); refine (put_calls w0 _ wb ok v _ _ [1] _ _ (below_alloc' HB.out _) (HW.out.kept hK2 (fun _ _ => id)) (C_blk (blk_new _ _) [1] rfl (by simp)) (by simp)).mono ?_; rintro r w2 hP; have HP := Lib.hid (WPost.after hK2 hP); obtain ⟨rfl, hP⟩ := hP; clear hP; clear hK2)))
    go_end0
    exact HP.out

set_option maxHeartbeats 1000000 in
theorem bytes_calls (w0 w : World) (wb : Nat) (ok : Nat → Prop) (v : Value) (e : Int) (out b : List Int) (A : Option Addr) (c : Nat)
    (hB : Below w0.heap.size w0 w) (hW : WrAt w w0.heap.size wb ok v e out) (hC : (Kd.int .u8).C w A b.length b) (hl : b.length ≤ 100000000000) :
    Calls Try.prog 14 #[.pointer (some ⟨wb, 0, none⟩), .slice A b.length c] w (WPost w0 w wb ok (putE e out (grp b.length ++ b)) (putO e out (grp b.length ++ b))) := by
  have HW := Lib.hid hW
  have HB := Lib.hid hB
  have HC := Lib.hid hC
  clear hW hB hC
  have hg := Lib.hid (grp_len10 (n := b.length) (by omega))
  go_enter Try.func14, Try.ntmps14
  go_wp2_with (first | (go_at_call 42; (refine (group_calls w0 _ (fun _ => False) _ [] _ (by omega) (by omega) HB.out (Kd.R_nil _ _ _ _ _) (by simp)).mono ?_; rintro e w1 ⟨v1, rfl, hO, hB1, hK⟩; rw [List.nil_append, Int.toNat_natCast] at hO; have HO := Aside0.mk (Kd.R_mono (ok' := fun k => w.heap.size ≤ k) hO (fun _ h => h.elim False.elim id)); have HB1 := Aside0.mk hB1; have HK := Aside0.mk hK; clear hO hB1 hK)) | ((with_reducible refine gate_builtin (b := .append) (xs := #[.tmp 10, .tmp 11]) rfl ?_); at_builtin; (refine Kd.R_append_rows (Kd.int .u8) (w0 := w0) w0.heap.size rfl (.tmp 10) (.tmp 11) 28 5 (.int .u8 0) 1 rfl Try.underlying28 infoB rfl (by decide) (by decide) v1 (grp b.length) b A _ c (fun k => w.heap.size ≤ k) (fun _ => False) rfl rfl ?aO ?aC (fun _ _ hp => hp) (fun _ hk => hk.elim) ?aF ?aB ?aS ?aL ?_; (case aB => exact (by repeat (first | (with_reducible first | exact HB1.out | apply below_alloc | apply pw_below_drewN | apply below_drew1) | exact HB1.out))); (case aF => exact (fun k hk => Nat.le_trans HK.out.1 hk)); (case aO => first | exact HO.out | exact (by (with_reducible repeat (first | apply Kd.R_alloc | apply Kd.R_drewN | apply Kd.R_drew)); exact HO.out)); (case aC => exact (C_none HC.out HK.out)); (case aS => exact (below_size (by repeat (first | (with_reducible first | exact HB1.out | apply below_alloc | apply pw_below_drewN | apply below_drew1) | exact HB1.out)))); (case aL => exact (by have := hg.out; omega)); intro v1 w1 hO1 hB1 hG1 hA1; have HO1 := Lib.hid hO1; have HB1 := Lib.hid hB1; have HG1 := Lib.hid hG1; clear hO1 hB1 hG1 hA1)) | (go_at_call 41; (obtain ⟨A2, c2, rfl⟩ := Kd.R_slice HO1.out; have hK2 := Kept.of_grown HG1.out HK.out (fun k hk => .inr (HO.out.1 k hk)); refine (put_calls w0 _ wb ok v _ _ _ _ _ HB1.out (HW.out.kept hK2 (fun _ _ => id)) ((Kd.R_reads' HO1.out).2.2) (by have := hg.out; rw [List.length_append]; omega)).mono ?_; rintro r w2 hP; have HP := Lib.hid (WPost.after hK2 hP); obtain ⟨rfl, hP⟩ := hP; clear hP hK2)))
  go_end0
  exact HP.out

theorem string_calls (w0 w : World) (wb : Nat) (ok : Nat → Prop) (v : Value) (e : Int) (out : List Int) (s : ByteArray)
    (hB : Below w0.heap.size w0 w) (hW : WrAt w w0.heap.size wb ok v e out) (hl : s.size ≤ 100000000000) :
    Calls Try.prog 36 #[.pointer (some ⟨wb, 0, none⟩), .string s] w (WPost w0 w wb ok (putE e out (grp s.size ++ bytesOf s)) (putO e out (grp s.size ++ bytesOf s))) := by
  have HW := Lib.hid hW
  have HB := Lib.hid hB
  clear hW hB
  have hcv := print_bytes (P := Try.prog) 9 28 5 Try.underlying9 Try.underlying28 Try.underlying5 s
  go_enter Try.func36, Try.ntmps36
  go_wp2_with (first | (go_at_call 14; (have hK2 := Kept.of_below (bytes_below (Below.refl w.heap.size w) (Nat.le_refl _) 5 s) (fun _ => False); have hb := bytes_calls w0 (Lib.bytesWorld w 5 s) wb ok v e out (bytesOf s) (some ⟨w.heap.size, 0, none⟩) (grownCap w s.size 0 5) (bytes_below HB.out HB.out.size _ s) (HW.out.kept hK2 (fun _ _ => id)) (by rw [bytesOf_length]; exact Kd.C_of_reads (d := (0 : Int)) (bytes_reads w 5 s (by omega))) (by rw [bytesOf_length]; exact hl); rw [bytesOf_length] at hb; refine hb.mono ?_; clear hb; rintro r w2 hP; have HP := Lib.hid (WPost.after hK2 hP); obtain ⟨rfl, hP⟩ := hP; clear hP hK2)))
  go_end0
  exact HP.out

set_option maxHeartbeats 1000000 in
theorem ints_calls (w0 w : World) (wb : Nat) (ok : Nat → Prop) (v : Value) (e : Int) (out l : List Int) (A : Option Addr) (c : Nat)
    (hB : Below w0.heap.size w0 w) (hW : WrAt w w0.heap.size wb ok v e out) (hC : (Kd.int .i64).C w A l.length l) (hr : ∀ x ∈ l, inI64 x) (hl : l.length ≤ 1000000000) :
    Calls Try.prog 37 #[.pointer (some ⟨wb, 0, none⟩), .slice A l.length c] w (WPost w0 w wb ok (putE e out (grp l.length ++ zigs l)) (putO e out (grp l.length ++ zigs l))) := by
  have HW := Lib.hid hW
  have HB := Aside0.mk hB
  have HC := Aside0.mk hC
  have HR := Aside0.mk hr
  have hg := Lib.hid (grp_len10 (n := l.length) (by omega))
  clear hW hB hC hr
  go_enter Try.func37, Try.ntmps37
  go_wp2_with (first | (go_at_call 42; (refine (group_calls w0 _ (fun _ => False) _ [] _ (by omega) (by omega) HB.out (Kd.R_nil _ _ _ _ _) (by simp)).mono ?_; rintro e w1 ⟨v1, rfl, hO, hB1, hK⟩; rw [List.nil_append, Int.toNat_natCast] at hO; have HO := Aside0.mk (Kd.R_mono (ok' := fun k => w.heap.size ≤ k) hO (fun _ h => h.elim False.elim id)); have HB1 := Aside0.mk hB1; have HK := Aside0.mk hK; clear hO hB1 hK)))
  go_loopg [4, 15] l.length (fun g v3 v4 w' => ∃ k : Nat, v4 = .int .i64 k ∧ k ≤ l.length ∧ Aside0 (g + k = l.length) ∧ Aside0 ((Kd.int .u8).R 5 w' w0.heap.size (fun k => w.heap.size ≤ k) v3 (grp l.length ++ zigs (l.take k))) ∧ Aside0 (Kept w w' (fun _ => False)) ∧ Aside0 (Below w0.heap.size w0 w'))
  case atStart => exact ⟨0, rfl, Nat.zero_le _, ⟨rfl⟩, ⟨by simpa [zigs] using HO.out⟩, HK, HB1⟩
  case round =>
    obtain ⟨k, rfl, hk, HM, HO, HK, HB⟩ := hrel
    by_cases h : k < l.length
    · have c1 : decide ((k : Int) < (l.length : Int)) = true := decide_eq_true (by omega)
      obtain ⟨ad, hA, hcell⟩ := C_at (C_none HC.out HK.out) k h
      subst hA
      have hin := getD_in HR.out h
      have HT := Lib.hid (zigs_take l k h)
      generalize l.getD k 0 = x at hcell hin HT
      have h1 := hin.1
      have h2 := hin.2
      have HL := Lib.hid (zigs_len (l.take k) (fun x hx => HR.out x (List.mem_of_mem_take hx)))
      have HLE := Lib.hid (show (grp l.length ++ zigs (l.take k)).length ≤ 100000000000 by have := hg.out; have := HL.out; rw [List.length_append]; rw [List.length_take] at *; omega)
      clear hin
      go_wp2_with (first | (go_at_call 44; (refine (fold_calls _ _ h1 h2).mono ?_; rintro e w1 ⟨rfl, rfl⟩)) | (go_at_call 42; (refine (group_calls w0 _ (fun k => w.heap.size ≤ k) _ _ _ (by omega) (by have := zig_lt _ h1 h2; omega) (by repeat (first | (with_reducible first | exact HB.out | apply below_alloc | apply pw_below_drewN | apply below_drew1) | exact HB.out)) HO.out HLE.out).mono ?_; rintro e w2 ⟨v2, rfl, hO, hB1, hK⟩; rw [Int.toNat_natCast] at hO; have HO2 := Aside0.mk (Kd.R_mono (ok' := fun k => w.heap.size ≤ k) hO (fun _ h => h.elim id (fun h => Nat.le_trans HK.out.1 h))); have HB2 := Aside0.mk hB1; have HK2 := Aside0.mk hK; clear hO hB1 hK)))
      go_roundg (l.length - (k + 1))
      case measure => have := HM.out; omega
      case rel => exact ⟨k + 1, by go_num, by omega, ⟨by omega⟩, ⟨by rw [HT.out, ← List.append_assoc]; exact HO2.out⟩, ⟨HK.out.then_ HK2.out (fun _ h => .inr h)⟩, ⟨HB2.out⟩⟩
    · have c1 : decide ((k : Int) < (l.length : Int)) = false := decide_eq_false (by omega)
      have HO := Aside0.mk (show (Kd.int .u8).R 5 wr w0.heap.size (fun k => w.heap.size ≤ k) u4 (grp l.length ++ zigs l) by have e : l.take k = l := List.take_of_length_le (by omega); rw [← e]; rw [e]; have h := HO.out; rw [e] at h; exact h)
      have HL := Lib.hid (show (grp l.length ++ zigs l).length ≤ 140737488355328 by have := hg.out; have := zigs_len l (fun x hx => HR.out x hx); rw [List.length_append]; omega)
      obtain ⟨Z, hZ⟩ : ∃ Z, grp l.length ++ zigs l = Z := ⟨_, rfl⟩
      rw [hZ] at HO HL
      have HZ := Lib.hid hZ
      clear hZ
      obtain ⟨A2, c2, hu4⟩ := Kd.R_slice HO.out
      subst hu4
      go_wp2_with (first | (go_at_call 41; (refine (put_calls w0 _ wb ok v _ _ _ _ _ HB.out (HW.out.kept HK.out (fun _ _ => id)) ((Kd.R_reads' HO.out).2.2) HL.out).mono ?_; rintro r w2 hP; have HP := Lib.hid (WPost.after HK.out hP); obtain ⟨rfl, hP⟩ := hP; clear hP)))
      go_end0
      rw [HZ.out]
      exact HP.out
end Go.Proofs.Ytpbmfdflmmeghaa.Wire
