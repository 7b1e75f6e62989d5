import Derived.Test.YtpbmfdflmmeghaaWn
namespace Go.Proofs.Ytpbmfdflmmeghaa.Wire
open Go.RowKit Go.Proofs.YtpbmfdflmmeghaaW.PrintWords Go.Proofs.YtpbmfdflmmeghaaW.PrintLast Go.Proofs.YtpbmfdflmmeghaaW.PrintMore
set_option linter.unusedVariables false
set_option linter.unusedSimpArgs false

theorem rdAt_calls (w : World) (base rb : Nat) (ok : Nat → Prop) (vin : Value) (e : Int) (p : Nat) (inb : List Int) (hR : RdAt w base rb ok vin e p inb) :
    Calls Try.prog 32 #[.pointer (some ⟨rb, 0, none⟩)] w (fun r w' => r = .returned (.int .i64 p) ∧ w = w') := by
  have hcell : w.cell? ⟨rb, 2, none⟩ = some (.int .i64 p) := (blk_cell hR.blk 2).trans rfl
  have HN := Lib.hid (none_calls w base rb ok vin e p inb hR)
  clear hR
  go_enter Try.func32, Try.ntmps32
  go_wp2_with (first | (go_at_call 58; (refine HN.out.mono ?_; rintro r w' ⟨rfl, rfl⟩)))
  go_ret
  exact ⟨rfl, rfl⟩

theorem rdErr_calls (w : World) (base rb : Nat) (ok : Nat → Prop) (vin : Value) (e : Int) (p : Nat) (inb : List Int) (hR : RdAt w base rb ok vin e p inb) :
    Calls Try.prog 35 #[.pointer (some ⟨rb, 0, none⟩)] w (fun r w' => r = .returned (.int .i64 e) ∧ w = w') := by
  have hcell : w.cell? ⟨rb, 0, none⟩ = some (.int .i64 e) := (blk_cell hR.blk 0).trans rfl
  have HN := Lib.hid (none_calls w base rb ok vin e p inb hR)
  clear hR
  go_enter Try.func35, Try.ntmps35
  go_wp2_with (first | (go_at_call 58; (refine HN.out.mono ?_; rintro r w' ⟨rfl, rfl⟩)))
  go_ret
  exact ⟨rfl, rfl⟩

def endE (e : Int) (p : Nat) (inb : List Int) : Int := if e ≠ 0 ∨ p = inb.length then e else 5

theorem rdEnd_calls (w : World) (base rb : Nat) (ok : Nat → Prop) (vin : Value) (e : Int) (p : Nat) (inb : List Int) (hR : RdAt w base rb ok vin e p inb) :
    Calls Try.prog 23 #[.pointer (some ⟨rb, 0, none⟩)] w (fun r w' => r = .returned (.int .i64 (endE e p inb)) ∧ ∃ n, w' = w.drewN n) := by
  have hcell1 : w.cell? ⟨rb, 1, none⟩ = some vin := (blk_cell hR.blk 1).trans rfl
  have hcell2 : w.cell? ⟨rb, 2, none⟩ = some (.int .i64 p) := (blk_cell hR.blk 2).trans rfl
  obtain ⟨A1, c1, rfl⟩ := Kd.R_slice hR.own
  have HN := Lib.hid (rdErr_calls w base rb ok _ e p inb hR)
  have hle := hR.le
  have hlen := hR.len
  clear hR
  by_cases he : e = 0
  · subst he
    by_cases hp : p = inb.length
    · have HE := Lib.hid (show endE 0 p inb = 0 by unfold endE; rw [if_pos (.inr hp)])
      have t1 : (((p : Nat) : Int) == ((inb.length : Nat) : Int)) = true := by rw [beq_iff_eq]; omega
      have t2 : (p == inb.length) = true := by rw [beq_iff_eq]; omega
      clear hp
      go_enter Try.func23, Try.ntmps23
      go_wp2_with (first | (go_at_call 35; (refine HN.out.mono ?_; rintro r w' ⟨rfl, rfl⟩)))
      go_quiet (fail)
      go_wp2
      go_ret
      exact ⟨by rw [HE.out]; rfl, _, rfl⟩
    · have HE := Lib.hid (show endE 0 p inb = 5 by unfold endE; rw [if_neg (by omega)])
      have t1 : (((p : Nat) : Int) == ((inb.length : Nat) : Int)) = false := by rw [beq_eq_false_iff_ne]; omega
      have t2 : (p == inb.length) = false := by rw [beq_eq_false_iff_ne]; omega
      clear hp
      go_enter Try.func23, Try.ntmps23
      go_wp2_with (first | (go_at_call 35; (refine HN.out.mono ?_; rintro r w' ⟨rfl, rfl⟩)))
      go_quiet (fail)
      go_wp2
      go_ret
      exact ⟨by rw [HE.out]; rfl, _, rfl⟩
  · have HE := Lib.hid (show endE e p inb = e by unfold endE; rw [if_pos (.inl he)])
    have t1 : (e != 0) = true := by simpa using he
    clear he
    go_enter Try.func23, Try.ntmps23
    go_wp2_with (first | (go_at_call 35; (refine HN.out.mono ?_; rintro r w' ⟨rfl, rfl⟩)))
    go_quiet (fail)
    go_wp2
    go_ret
    exact ⟨by rw [HE.out]; rfl, _, rfl⟩

theorem RdAt.new {w0 w : World} {rb : Nat} {v1 : Value} {inb : List Int} (h : w0.heap.size ≤ w.heap.size) (hO : (Kd.int .u8).R 5 w w0.heap.size (fun k => rb ≤ k ∧ k < w.heap.size) v1 inb) (hl : inb.length ≤ 1000000000) (hby : ∀ x ∈ inb, 0 ≤ x ∧ x < 256) :
    RdAt (w.alloc (.cells #[.int .i64 0, v1, .int .i64 0, .bool true] 61)) w0.heap.size w.heap.size (fun k => rb ≤ k ∧ k < w.heap.size) v1 0 0 inb :=
  ⟨h, blk_new _ _, Kd.R_alloc hO _, Nat.zero_le _, hl, hby⟩

/-- A new reader, in memory made since w. -/
def ReadPost (w0 w : World) (inb : List Int) (r : Ending) (w' : World) : Prop :=
  ∃ rb vin, r = .returned (.pointer (some ⟨rb, 0, none⟩)) ∧ w.heap.size ≤ rb ∧ rb < w'.heap.size ∧ RdAt w' w0.heap.size rb (fun k => w.heap.size ≤ k ∧ k < rb) vin 0 0 inb ∧ Below w0.heap.size w0 w' ∧ Kept w w' (fun _ => False)

theorem read_calls (w0 w : World) (b : List Int) (A : Option Addr) (c : Nat) (hB : Below w0.heap.size w0 w) (hC : (Kd.int .u8).C w A b.length b) (hl : b.length ≤ 1000000000) (hby : ∀ x ∈ b, 0 ≤ x ∧ x < 256) :
    Calls Try.prog 21 #[.slice A b.length c] w (ReadPost w0 w b) := by
  have HB := Aside0.mk hB
  have HC := Aside0.mk hC
  have HBY := Aside0.mk hby
  clear hB hC hby
  go_enter Try.func21, Try.ntmps21
  go_wp2_with (first | (go_at_call 40; (refine (clone_calls w0 _ b A c HB.out HC.out (by omega)).mono ?_; rintro r w1 ⟨v1, rfl, hO, hB1, hK⟩; obtain ⟨A2, c2, rfl⟩ := Kd.R_slice hO; have HO := Aside0.mk hO; have HB1 := Aside0.mk hB1; have HK := Aside0.mk hK; clear hO hB1 hK)))
  go_ret
  refine ⟨w1.heap.size, _, rfl, HK.out.1, by simp, RdAt.new HB1.out.size (Kd.R_mono (Kd.R_bound HO.out) (fun k hk => ⟨hk.1, hk.2.2.1⟩)) hl HBY.out, below_alloc' HB1.out _, HK.out.alloc _⟩
theorem rdString_calls (w0 w : World) (rb : Nat) (ok : Nat → Prop) (vin : Value) (e : Int) (p : Nat) (inb : List Int) (limit : Int) (hl0 : -9223372036854775808 ≤ limit) (hl1 : limit ≤ 9223372036854775807) (hB : Below w0.heap.size w0 w) (hR : RdAt w w0.heap.size rb ok vin e p inb) :
    Calls Try.prog 29 #[.pointer (some ⟨rb, 0, none⟩), .int .i64 limit] w (fun r w' => r = .returned (.string (strOfNums (valR [] e (bytesF limit inb p)))) ∧ RLeft w0 w rb ok vin (valE e (bytesF limit inb p)) (valP e p (bytesF limit inb p)) inb w') := by
  have HC := Lib.hid (rdBytes_calls w0 w rb ok vin e p inb limit hl0 hl1 hB hR)
  clear hB hR
  generalize valR [] e (bytesF limit inb p) = l at HC ⊢
  go_enter Try.func29, Try.ntmps29
  go_wp2_with (first | (go_at_call 28; (refine HC.out.mono ?_; rintro r w1 ⟨⟨v1, rfl, hO⟩, hL⟩; obtain ⟨A2, c2, rfl⟩ := Kd.R_slice hO; have hcv := Kd.C_string (P := Try.prog) (src := 28) (dst := 9) (e := 5) (c := c2) Try.underlying28 Try.underlying5 Try.underlying9 ((Kd.R_reads' hO).2.2); have HL := Aside0.mk hL; clear hO hL)))
  go_ret
  exact ⟨rfl, HL.out⟩

def failE (e c : Int) : Int := if e = 0 then c else e
theorem rdFail_calls (w0 w : World) (rb : Nat) (ok : Nat → Prop) (vin : Value) (e c : Int) (p : Nat) (inb : List Int) (hB : Below w0.heap.size w0 w) (hR : RdAt w w0.heap.size rb ok vin e p inb) :
    Calls Try.prog 33 #[.pointer (some ⟨rb, 0, none⟩), .int .i64 c] w (fun r w' => r = .returned (.tuple #[]) ∧ RLeft w0 w rb ok vin (failE e c) p inb w') := by
  have HN := Lib.hid (none_calls w _ rb ok vin e p inb hR)
  have HF := Lib.hid (fail_calls rb _ _ 0 e c w hR.blk rfl)
  have HR := Lib.hid hR
  have HB := Lib.hid hB
  clear hR hB
  go_enter Try.func33, Try.ntmps33
  go_wp2_with (first | (go_at_call 58; (refine HN.out.mono ?_; rintro r w' ⟨rfl, rfl⟩)) | (go_at_call 43; (refine HF.out.mono ?_; rintro r w1 ⟨rfl, hw⟩; have HW := Lib.hid hw; clear hw)))
  go_end0
  refine ⟨rfl, ?_⟩
  have hw := HW.out
  unfold failE
  by_cases he : e = 0
  · rw [if_pos he] at hw ⊢
    subst hw
    exact ⟨HR.out.setE c, HB.out.setCell HR.out.hb _, Kept.setCell (S := fun k => k = rb) (Kept.refl w _) (p := ⟨rb, 0, none⟩) (.inl rfl) _⟩
  · rw [if_neg he] at hw ⊢
    subst hw
    exact RLeft.refl HR.out HB.out

/-- What Unframe hands back. -/
def unfK (b : List Int) : Int := valR (0 : Int) 0 (uintF b 0)
def unfE1 (b : List Int) : Int := valE 0 (uintF b 0)
def unfP1 (b : List Int) : Nat := valP 0 0 (uintF b 0)
def unfL (b : List Int) : List Int := valR [] (unfE1 b) (bytesF 65536 b (unfP1 b))
def unfE (b : List Int) : Int := endE (valE (unfE1 b) (bytesF 65536 b (unfP1 b))) (valP (unfE1 b) (unfP1 b) (bytesF 65536 b (unfP1 b))) b

def UnfPost (w0 w : World) (b : List Int) (r : Ending) (w' : World) : Prop :=
  ∃ v', r = .returned (.tuple #[.int .i64 (if unfE b = 0 then unfK b else 0), v', .int .i64 (unfE b)]) ∧ (Kd.int .u8).R 5 w' w0.heap.size (fun k => w.heap.size ≤ k) v' (if unfE b = 0 then unfL b else []) ∧ Below w0.heap.size w0 w' ∧ Kept w w' (fun _ => False)

theorem kept_new {w w1 w2 : World} {rb : Nat} (h : Kept w w1 (fun _ => False)) (hr : w.heap.size ≤ rb) (k : Kept w1 w2 (fun k => k = rb)) : Kept w w2 (fun _ => False) :=
  h.then_ k (fun _ hk => .inr (by omega))

set_option maxHeartbeats 1000000 in
theorem unframe_calls (w0 w : World) (b : List Int) (A : Option Addr) (c : Nat) (hB : Below w0.heap.size w0 w) (hC : (Kd.int .u8).C w A b.length b) (hl : b.length ≤ 1000000000) (hby : ∀ x ∈ b, 0 ≤ x ∧ x < 256) :
    Calls Try.prog 25 #[.slice A b.length c] w (UnfPost w0 w b) := by
  have HD := Lib.hid (read_calls w0 w b A c hB hC hl hby)
  clear hB hC hby
  have HK := Lib.hid (show valR (0 : Int) 0 (uintF b 0) = unfK b from rfl)
  by_cases hz : unfE b = 0
  · have t1 : (unfE b != 0) = false := by simpa using hz
    have HZ := Lib.hid hz
    clear hz
    go_enter Try.func25, Try.ntmps25
    go_wp2_with (first | (go_at_call 21; (refine HD.out.mono ?_; rintro r w1 ⟨rb, vin, rfl, hrb, hrb2, hR, hB1, hK⟩; have HR := Aside0.mk hR; have HB1 := Aside0.mk hB1; have HK1 := Aside0.mk hK; have hu := Lib.hid (rdUint_calls w0 w1 rb _ vin 0 0 b hB1 hR); clear hR hB1 hK)) | (go_at_call 24; (refine hu.out.mono ?_; rintro r w2 ⟨rfl, hL⟩; rw [HK.out]; have HL2 := Aside0.mk hL; have hv := Lib.hid (rdBytes_calls w0 w2 rb _ vin (unfE1 b) (unfP1 b) b 65536 (by omega) (by omega) hL.below hL.rd); clear hL hu)) | (go_at_call 28; (refine hv.out.mono ?_; rintro r w3 ⟨⟨v3, rfl, hO⟩, hL⟩; have HL3 := Aside0.mk hL; have HO := Aside0.mk (show (Kd.int .u8).R 5 w3 w0.heap.size (fun k => w2.heap.size ≤ k) v3 (unfL b) from hO); have hd := Lib.hid (rdEnd_calls w3 _ rb _ vin _ _ b hL.rd); have hf := Lib.hid (show endE (valE (unfE1 b) (bytesF 65536 b (unfP1 b))) (valP (unfE1 b) (unfP1 b) (bytesF 65536 b (unfP1 b))) b = unfE b from rfl); rw [hf.out] at hd; clear hL hO hv)) | (go_at_call 23; (refine hd.out.mono ?_; rintro r w4 ⟨rfl, n, rfl⟩; clear hd)))
    go_ret3
    have hK := ((kept_new HK1.out hrb HL2.out.kept).then_ HL3.out.kept (fun _ h => .inr (by omega))).drewN n
    exact ⟨v3, by rw [if_pos HZ.out, HZ.out]; rfl, by rw [if_pos HZ.out]; exact Kd.R_mono HO.out (fun k hk => Nat.le_trans (kept_new HK1.out hrb HL2.out.kept).1 hk), pw_below_drewN HL3.out.below n, hK⟩
  · have t1 : (unfE b != 0) = true := by simpa using hz
    have HZ := Lib.hid hz
    clear hz
    go_enter Try.func25, Try.ntmps25
    go_wp2_with (first | (go_at_call 21; (refine HD.out.mono ?_; rintro r w1 ⟨rb, vin, rfl, hrb, hrb2, hR, hB1, hK⟩; have HR := Aside0.mk hR; have HB1 := Aside0.mk hB1; have HK1 := Aside0.mk hK; have hu := Lib.hid (rdUint_calls w0 w1 rb _ vin 0 0 b hB1 hR); clear hR hB1 hK)) | (go_at_call 24; (refine hu.out.mono ?_; rintro r w2 ⟨rfl, hL⟩; rw [HK.out]; have HL2 := Aside0.mk hL; have hv := Lib.hid (rdBytes_calls w0 w2 rb _ vin (unfE1 b) (unfP1 b) b 65536 (by omega) (by omega) hL.below hL.rd); clear hL hu)) | (go_at_call 28; (refine hv.out.mono ?_; rintro r w3 ⟨⟨v3, rfl, hO⟩, hL⟩; have HL3 := Aside0.mk hL; have HO := Aside0.mk (show (Kd.int .u8).R 5 w3 w0.heap.size (fun k => w2.heap.size ≤ k) v3 (unfL b) from hO); have hd := Lib.hid (rdEnd_calls w3 _ rb _ vin _ _ b hL.rd); have hf := Lib.hid (show endE (valE (unfE1 b) (bytesF 65536 b (unfP1 b))) (valP (unfE1 b) (unfP1 b) (bytesF 65536 b (unfP1 b))) b = unfE b from rfl); rw [hf.out] at hd; clear hL hO hv)) | (go_at_call 23; (refine hd.out.mono ?_; rintro r w4 ⟨rfl, n, rfl⟩; clear hd)))
    go_ret3
    have hK := ((kept_new HK1.out hrb HL2.out.kept).then_ HL3.out.kept (fun _ h => .inr (by omega))).drewN n
    exact ⟨_, by rw [if_neg HZ.out]; rfl, by rw [if_neg HZ.out]; exact Kd.R_nil _ _ _ _ _, pw_below_drewN HL3.out.below n, hK⟩
end Go.Proofs.Ytpbmfdflmmeghaa.Wire
