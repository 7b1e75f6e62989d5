import Derived.Test.YtpbmfdflmmeghaaWf
import Derived.WalkLawsBesides
import Derived.Laws.Shifts
namespace Go.Proofs.Ytpbmfdflmmeghaa.Wire
open Go.RowKit Go.Proofs.YtpbmfdflmmeghaaW.PrintWords Go.Proofs.YtpbmfdflmmeghaaW.PrintLast Go.Proofs.YtpbmfdflmmeghaaW.PrintMore
set_option linter.unusedVariables false
set_option linter.unusedSimpArgs false

/-- A reader's cells lie in block rb: the first error e, the bytes inb in vin, the offset p. -/
structure RdAt (w : World) (base rb : Nat) (ok : Nat → Prop) (vin : Value) (e : Int) (p : Nat) (inb : List Int) : Prop where
  hb : base ≤ rb
  blk : w.heap[rb]? = some (.cells #[.int .i64 e, vin, .int .i64 p, .bool true] 61 (0, 0))
  own : (Kd.int .u8).R 5 w base ok vin inb
  le : p ≤ inb.length
  len : inb.length ≤ 1000000000
  byte : ∀ x ∈ inb, 0 ≤ x ∧ x < 256

/-- What a reading call leaves. -/
structure RLeft (w0 w : World) (rb : Nat) (ok : Nat → Prop) (vin : Value) (e : Int) (p : Nat) (inb : List Int) (w' : World) : Prop where
  rd : RdAt w' w0.heap.size rb ok vin e p inb
  below : Below w0.heap.size w0 w'
  kept : Kept w w' (fun k => k = rb)

theorem RdAt.kept {w w' : World} {base rb : Nat} {ok S : Nat → Prop} {vin : Value} {e : Int} {p : Nat} {inb : List Int} (h : RdAt w base rb ok vin e p inb) (hk : Kept w w' S) (h1 : ¬ S rb) (h2 : ∀ k, ok k → ¬ S k) : RdAt w' base rb ok vin e p inb :=
  ⟨h.hb, blk_kept h.blk hk h1, Kd.R_kept h.own hk h2, h.le, h.len, h.byte⟩
theorem RdAt.drewN {w : World} {base rb : Nat} {ok : Nat → Prop} {vin : Value} {e : Int} {p : Nat} {inb : List Int} (h : RdAt w base rb ok vin e p inb) (n : Nat) : RdAt (w.drewN n) base rb ok vin e p inb :=
  ⟨h.hb, h.blk, h.own, h.le, h.len, h.byte⟩
theorem RdAt.setP {w : World} {base rb : Nat} {ok : Nat → Prop} {vin : Value} {e : Int} {p : Nat} {inb : List Int} (h : RdAt w base rb ok vin e p inb) (q : Nat) (hq : q ≤ inb.length) : RdAt (w.setCell ⟨rb, 2, none⟩ (.int .i64 q)) base rb ok vin e q inb :=
  ⟨h.hb, blk_put h.blk 2 _ rfl, Kd.R_set h.own h.blk (by decide) 2 _, hq, h.len, h.byte⟩
theorem RdAt.setE {w : World} {base rb : Nat} {ok : Nat → Prop} {vin : Value} {e : Int} {p : Nat} {inb : List Int} (h : RdAt w base rb ok vin e p inb) (e' : Int) : RdAt (w.setCell ⟨rb, 0, none⟩ (.int .i64 e')) base rb ok vin e' p inb :=
  ⟨h.hb, blk_put h.blk 0 _ rfl, Kd.R_set h.own h.blk (by decide) 0 _, h.le, h.len, h.byte⟩

abbrev errPanic (c : Int) : Ending := .panicked [{ v := .iface 25 (.int .i64 c), recovered := false }]

/-- The next byte, or ErrShort. -/
def NextPost (w0 w : World) (rb : Nat) (ok : Nat → Prop) (vin : Value) (e : Int) (p : Nat) (inb : List Int) (r : Ending) (w' : World) : Prop :=
  (p < inb.length ∧ r = .returned (.int .u8 (inb.getD p 0)) ∧ RLeft w0 w rb ok vin e (p + 1) inb w') ∨ (p = inb.length ∧ r = errPanic 4 ∧ RLeft w0 w rb ok vin e p inb w')

theorem next_calls (w0 w : World) (rb : Nat) (ok : Nat → Prop) (vin : Value) (e : Int) (p : Nat) (inb : List Int) (hB : Below w0.heap.size w0 w) (hR : RdAt w w0.heap.size rb ok vin e p inb) :
    Calls Try.prog 52 #[.pointer (some ⟨rb, 0, none⟩)] w (NextPost w0 w rb ok vin e p inb) := by
  have hcell1 : w.cell? ⟨rb, 1, none⟩ = some vin := (blk_cell hR.blk 1).trans rfl
  have hcell2 : w.cell? ⟨rb, 2, none⟩ = some (.int .i64 p) := (blk_cell hR.blk 2).trans rfl
  have hfr : w.frozen? ⟨rb, 2, none⟩ = false := blk_frozen hR.blk 2
  obtain ⟨A1, c1, rfl⟩ := Kd.R_slice hR.own
  have HR := Lib.hid hR
  have HB := Lib.hid hB
  have hle := hR.le
  have hlen := hR.len
  clear hR hB
  by_cases h : p < inb.length
  · have t1 : (((p : Nat) : Int) == ((inb.length : Nat) : Int)) = false := by rw [beq_eq_false_iff_ne]; omega
    have t2 : (p == inb.length) = false := by rw [beq_eq_false_iff_ne]; omega
    obtain ⟨ad, hA, hcell⟩ := C_at ((Kd.R_reads' HR.out.own).2.2) p h
    subst hA
    have hgp := Lib.hid h
    have hp0 : 0 ≤ (p : Int) := by omega
    have hp1 : (p : Int) < (inb.length : Int) := by omega
    generalize hx : inb.getD p 0 = x at hcell
    have HX := Lib.hid hx
    clear hx
    go_enter Try.func52, Try.ntmps52
    go_wp2
    go_quiet (fail)
    go_wp2
    go_quiet (fail)
    go_wp2
    go_ret
    exact .inl ⟨hgp.out, by rw [HX.out]; rfl, (HR.out.drewN _).setP (p + 1) (by omega), (pw_below_drewN HB.out _).setCell HR.out.hb _, Kept.setCell (S := fun k => k = rb) ((Kept.refl w _).drewN _) (p := ⟨rb, 2, none⟩) (.inl rfl) _⟩
  · have hp : p = inb.length := by omega
    have t1 : (((p : Nat) : Int) == ((inb.length : Nat) : Int)) = true := by rw [beq_iff_eq]; omega
    have t2 : (p == inb.length) = true := by rw [beq_iff_eq]; omega
    have hgp := Lib.hid hp
    clear hp h
    go_enter Try.func52, Try.ntmps52
    go_wp2
    go_quiet (fail)
    go_wp2
    exact ⟨rfl, .inr ⟨hgp.out, rfl, HR.out.drewN _, pw_below_drewN HB.out _, (Kept.refl _ _).drewN _⟩⟩

/-- A number is read: at offset p, behind s bits that were read as acc. -/
def numF (bits : Nat) (inb : List Int) (p s : Nat) (acc : Int) : Except Int (Int × Nat) :=
  if h : p < inb.length then
    if ((bits : Int) - s < 7 ∧ inb.getD p 0 / 2 ^ (bits - s) ≠ 0) ∨ ((bits : Int) - s = 7 ∧ 128 ≤ inb.getD p 0) then .error 6
    else if inb.getD p 0 < 128 then (if inb.getD p 0 = 0 ∧ 0 < s then .error 6 else .ok (acc + inb.getD p 0 % 128 * 2 ^ s, p + 1))
    else numF bits inb (p + 1) (s + 7) (acc + inb.getD p 0 % 128 * 2 ^ s)
  else .error 4
termination_by inb.length - p

def NumPost (w0 w : World) (rb : Nat) (ok : Nat → Prop) (vin : Value) (e : Int) (inb : List Int) (x : Except Int (Int × Nat)) (r : Ending) (w' : World) : Prop :=
  match x with
  | .ok (n, q) => r = .returned (.int .u64 n) ∧ RLeft w0 w rb ok vin e q inb w'
  | .error c => r = errPanic c ∧ ∃ q, RLeft w0 w rb ok vin e q inb w'

theorem RLeft.trans {w0 w w1 w2 : World} {rb : Nat} {ok : Nat → Prop} {vin : Value} {e e' : Int} {p p' : Nat} {inb : List Int} (h : RLeft w0 w rb ok vin e p inb w1) (k : RLeft w0 w1 rb ok vin e' p' inb w2) : RLeft w0 w rb ok vin e' p' inb w2 :=
  ⟨k.rd, k.below, h.kept.then_ k.kept (fun _ h => .inl h)⟩

theorem shl_in (b : Int) (s : Nat) (h0 : 0 ≤ b) (h1 : b < 128) (hs : s ≤ 56 ∨ (s = 63 ∧ b ≤ 1)) : b * 2 ^ s < 18446744073709551616 ∧ 0 ≤ b * 2 ^ s := by
  have hp : (0 : Int) < 2 ^ s := Int.pow_pos (by decide)
  refine ⟨?_, Int.mul_nonneg h0 (Int.le_of_lt hp)⟩
  rcases hs with hs | ⟨rfl, hb⟩
  · have h2 : (2 : Int) ^ s ≤ 2 ^ 56 := by
      have := Nat.pow_le_pow_right (n := 2) (by decide) hs
      exact_mod_cast this
    have h3 : b * 2 ^ s ≤ 127 * 2 ^ 56 := Int.mul_le_mul (by omega) h2 (Int.le_of_lt hp) (by decide)
    have : (127 : Int) * 2 ^ 56 < 18446744073709551616 := by decide
    omega
  · have : (b = 0 ∨ b = 1) := by omega
    rcases this with rfl | rfl <;> decide

theorem or_acc (acc : Int) (b : Int) (s : Nat) (ha0 : 0 ≤ acc) (ha : acc < 2 ^ s) (h0 : 0 ≤ b) (h1 : b < 128) (hs : s ≤ 56 ∨ (s = 63 ∧ b ≤ 1)) :
    Go.bits .or .u64 acc (b * 2 ^ s) = acc + b * 2 ^ s := by
  obtain ⟨h2, h3⟩ := shl_in b s h0 h1 hs
  obtain ⟨a, rfl⟩ := Int.eq_ofNat_of_zero_le ha0
  obtain ⟨c, rfl⟩ := Int.eq_ofNat_of_zero_le h0
  have ha' : a < 2 ^ s := by rw [← Int.ofNat_lt, Int.natCast_pow]; exact ha
  have hs2 : (2 : Nat) ^ s ≤ 2 ^ 63 := Nat.pow_le_pow_right (by decide) (by omega)
  have e : ((c : Int) * 2 ^ s) = ((c * 2 ^ s : Nat) : Int) := by rw [Int.natCast_mul, Int.natCast_pow]; rfl
  rw [e] at h2 ⊢
  rw [u64_or_nat a (c * 2 ^ s) (by omega) (by omega), Nat.or_comm, nat_join s (c * 2 ^ s) a (Nat.mul_mod_left _ _) ha']
  rw [Int.natCast_add]; omega
theorem or_acc' (acc : Int) (b : Int) (s : Nat) (ha0 : 0 ≤ acc) (ha : acc < 2 ^ s) (h0 : 0 ≤ b) (h1 : b < 128) (hs : s ≤ 56 ∨ (s = 63 ∧ b ≤ 1)) :
    Go.bits .or .u64 acc (IntKind.u64.wrap (b * 2 ^ s)) = acc + b * 2 ^ s := by
  obtain ⟨h2, h3⟩ := shl_in b s h0 h1 hs
  rw [IntKind.wrap_u64, Int.emod_eq_of_lt h3 h2, or_acc acc b s ha0 ha h0 h1 hs]
theorem shl_run (b : Int) (s : Nat) (h0 : 0 ≤ b) (h1 : b < 128) (hs : s ≤ 56 ∨ (s = 63 ∧ b ≤ 1)) :
    Op.shift .shl .u64 b .i64 (s : Int) = pure (.int .u64 (b * 2 ^ s)) := by
  obtain ⟨h2, h3⟩ := shl_in b s h0 h1 hs
  have hm : min (s : Int).toNat IntKind.u64.bits = s := by
    rw [Int.toNat_natCast]; have : IntKind.u64.bits = 64 := rfl
    rw [this]; omega
  rw [shift_shl_any _ _ _ _ (by omega), hm, IntKind.wrap_u64, Int.emod_eq_of_lt h3 h2]
theorem shr_run (b : Int) (B s : Nat) (hs : s < B) (h : (B : Int) - s < 7) : Op.shift .shr .u8 b .i64 ((B : Int) - (s : Int)) = pure (.int .u8 (b / 2 ^ (B - s))) := by
  have hm : min ((B : Int) - (s : Int)).toNat IntKind.u8.bits = B - s := by
    have : IntKind.u8.bits = 8 := rfl
    rw [this]; omega
  rw [shift_shr_any _ _ _ _ (by omega), hm]

theorem next_at (w0 w : World) (rb : Nat) (ok : Nat → Prop) (vin : Value) (e : Int) (p : Nat) (inb : List Int) (h : p < inb.length) (hB : Below w0.heap.size w0 w) (hR : RdAt w w0.heap.size rb ok vin e p inb) :
    Calls Try.prog 52 #[.pointer (some ⟨rb, 0, none⟩)] w (fun r w' => r = .returned (.int .u8 (inb.getD p 0)) ∧ RLeft w0 w rb ok vin e (p + 1) inb w') :=
  (next_calls w0 w rb ok vin e p inb hB hR).mono fun r w' hP => hP.elim (fun h1 => h1.2) (fun h1 => absurd h1.1 (by omega))
theorem next_end (w0 w : World) (rb : Nat) (ok : Nat → Prop) (vin : Value) (e : Int) (p : Nat) (inb : List Int) (h : p = inb.length) (hB : Below w0.heap.size w0 w) (hR : RdAt w w0.heap.size rb ok vin e p inb) :
    Calls Try.prog 52 #[.pointer (some ⟨rb, 0, none⟩)] w (fun r w' => r = errPanic 4 ∧ RLeft w0 w rb ok vin e p inb w') :=
  (next_calls w0 w rb ok vin e p inb hB hR).mono fun r w' hP => hP.elim (fun h1 => absurd h1.1 (by omega)) (fun h1 => h1.2)
end Go.Proofs.Ytpbmfdflmmeghaa.Wire
