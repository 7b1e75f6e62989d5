import Derived.Test.YtpbmfdflmmeghaaVb
namespace Go.Proofs.Ytpbmfdflmmeghaa.Wire
open Go.RowKit Go.Proofs.YtpbmfdflmmeghaaW.PrintWords Go.Proofs.YtpbmfdflmmeghaaW.PrintLast Go.Proofs.YtpbmfdflmmeghaaW.PrintMore
set_option linter.unusedVariables false
set_option linter.unusedSimpArgs false

def FormPost (w0 w : World) (x : Val) (r : Ending) (w' : World) : Prop :=
  ∃ v', r = .returned (.tuple #[v', .bool (!badV x)]) ∧ (Kd.int .u8).R 5 w' w0.heap.size (fun k => w.heap.size ≤ k) v' (if badV x = true then [] else formB x) ∧ Below w0.heap.size w0 w' ∧ Kept w w' (fun _ => False)
theorem FormPost.mk {w0 w w1 w' : World} {x : Val} {v' : Value} {b : Bool} {l : List Int} {ok : Nat → Prop} (hb : badV x = false) (hl : formB x = l) (hv : b = true) (hk : Kept w w1 (fun _ => False)) (hO : (Kd.int .u8).R 5 w' w0.heap.size ok v' l) (hok : ∀ k, ok k → w1.heap.size ≤ k) (hB : Below w0.heap.size w0 w') (hK : Kept w1 w' (fun _ => False)) : FormPost w0 w x (.returned (.tuple #[v', .bool b])) w' :=
  ⟨v', by rw [hb, hv]; rfl, by rw [hb, hl]; exact Kd.R_mono hO (fun k h => Nat.le_trans hk.1 (hok k h)), hB, hk.then_ hK (fun _ h => h.elim)⟩
theorem R_one (W : World) (base : Nat) (b : Int) (h : base ≤ W.heap.size) : (Kd.int .u8).R 5 (W.alloc (.cells #[.int .u8 b] 5)) base (fun k => W.heap.size ≤ k) (.slice (some ⟨W.heap.size, 0, none⟩) 1 1) [b] :=
  Kd.R_of_own (h1 := fun _ => rfl) (own_lit W base 5 .u8 [b] h (by simp)) (fun k hk => by cases hk; exact Nat.le_refl _)

set_option maxHeartbeats 1000000 in
theorem form0n (w0 w : World) (x : Val) (A2 A3 : Option Addr) (c2 c3 : Nat) (hB : Below w0.heap.size w0 w) (hV : ValOk x) (hS : Small x)
    (h2 : (Kd.int .u8).C w A2 x.f2.length x.f2) (h3 : (Kd.int .i64).C w A3 x.f3.length x.f3) (hk : x.f0 % 6 = 0) (hn : x.f1 < 0) :
    Calls Try.prog 12 #[.agg #[.int .u8 x.f0, .int .i64 x.f1, .slice A2 x.f2.length c2, .slice A3 x.f3.length c3]] w (FormPost w0 w x) := by
  obtain ⟨k1, k2, _⟩ := kinds hV.k0 hV.k1
  rw [hk] at k1 k2
  have HK := Lib.hid ((Kept.refl w (fun _ => False)).alloc (.cells #[.int .u8 x.f0, .int .i64 x.f1, .slice A2 x.f2.length c2, .slice A3 x.f3.length c3] 35))
  have HB := Lib.hid (below_alloc' hB (.cells #[.int .u8 x.f0, .int .i64 x.f1, .slice A2 x.f2.length c2, .slice A3 x.f3.length c3] 35))
  have H2 := Lib.hid (C_none h2 HK.out)
  have H3 := Lib.hid (C_none h3 HK.out)
  have n0 := hV.n0
  have n1 := hV.n1
  have l2 := hS.1
  have l3 := hS.2
  have HL := Lib.hid hV.li
  have HQ := Lib.hid (show badV x = true by simp [badV, formB, hk, hn])
  have d1 : decide (x.f1 < 0) = true := decide_eq_true hn
  clear hB hV hS h2 h3
  go_enter Try.func12, Try.ntmps12
  go_wp2_with fail
  go_ret2
  exact ⟨_, by rw [HQ.out]; rfl, by rw [HQ.out]; exact Kd.R_nil _ _ _ _ _, HB.out, HK.out⟩

set_option maxHeartbeats 1000000 in
theorem form0 (w0 w : World) (x : Val) (A2 A3 : Option Addr) (c2 c3 : Nat) (hB : Below w0.heap.size w0 w) (hV : ValOk x) (hS : Small x)
    (h2 : (Kd.int .u8).C w A2 x.f2.length x.f2) (h3 : (Kd.int .i64).C w A3 x.f3.length x.f3) (hk : x.f0 % 6 = 0) (hn : ¬ x.f1 < 0) :
    Calls Try.prog 12 #[.agg #[.int .u8 x.f0, .int .i64 x.f1, .slice A2 x.f2.length c2, .slice A3 x.f3.length c3]] w (FormPost w0 w x) := by
  obtain ⟨k1, k2, _⟩ := kinds hV.k0 hV.k1
  rw [hk] at k1 k2
  have HK := Lib.hid ((Kept.refl w (fun _ => False)).alloc (.cells #[.int .u8 x.f0, .int .i64 x.f1, .slice A2 x.f2.length c2, .slice A3 x.f3.length c3] 35))
  have HB := Lib.hid (below_alloc' hB (.cells #[.int .u8 x.f0, .int .i64 x.f1, .slice A2 x.f2.length c2, .slice A3 x.f3.length c3] 35))
  have H2 := Lib.hid (C_none h2 HK.out)
  have H3 := Lib.hid (C_none h3 HK.out)
  have n0 := hV.n0
  have n1 := hV.n1
  have l2 := hS.1
  have l3 := hS.2
  have HL := Lib.hid hV.li
  have HQ := Lib.hid (show badV x = false ∧ formB x = grp x.f1.toNat by simp [badV, formB, hk]; omega)
  have d1 : decide (x.f1 < 0) = false := decide_eq_false hn
  have hwn : IntKind.u64.wrap x.f1 = x.f1 := by rw [IntKind.wrap_u64]; omega
  clear hB hV hS h2 h3
  go_enter Try.func12, Try.ntmps12
  go_wp2_with (first | (go_at_call 19; refine (refGroup_calls _ _ (by omega) (by clear hwn; omega) w0 HB.out).mono ?_; rintro r w1 ⟨v1, rfl, hO, hB, hK⟩; have HO := Lib.hid hO; have HB1 := Lib.hid hB; have HK1 := Lib.hid hK; clear hO hB hK))
  go_ret2
  exact FormPost.mk HQ.out.1 HQ.out.2 rfl HK.out HO.out (fun _ h => h) HB1.out HK1.out

set_option maxHeartbeats 1000000 in
theorem form1 (w0 w : World) (x : Val) (A2 A3 : Option Addr) (c2 c3 : Nat) (hB : Below w0.heap.size w0 w) (hV : ValOk x) (hS : Small x)
    (h2 : (Kd.int .u8).C w A2 x.f2.length x.f2) (h3 : (Kd.int .i64).C w A3 x.f3.length x.f3) (hk : x.f0 % 6 = 1) :
    Calls Try.prog 12 #[.agg #[.int .u8 x.f0, .int .i64 x.f1, .slice A2 x.f2.length c2, .slice A3 x.f3.length c3]] w (FormPost w0 w x) := by
  obtain ⟨k1, k2, _⟩ := kinds hV.k0 hV.k1
  rw [hk] at k1 k2
  have HK := Lib.hid ((Kept.refl w (fun _ => False)).alloc (.cells #[.int .u8 x.f0, .int .i64 x.f1, .slice A2 x.f2.length c2, .slice A3 x.f3.length c3] 35))
  have HB := Lib.hid (below_alloc' hB (.cells #[.int .u8 x.f0, .int .i64 x.f1, .slice A2 x.f2.length c2, .slice A3 x.f3.length c3] 35))
  have H2 := Lib.hid (C_none h2 HK.out)
  have H3 := Lib.hid (C_none h3 HK.out)
  have n0 := hV.n0
  have n1 := hV.n1
  have l2 := hS.1
  have l3 := hS.2
  have HL := Lib.hid hV.li
  have HQ := Lib.hid (show badV x = false ∧ formB x = grp (zig x.f1) by simp [badV, formB, hk])
  have hz := zig_lt x.f1 n0 n1
  clear hB hV hS h2 h3
  go_enter Try.func12, Try.ntmps12
  go_wp2_with (first | (go_at_call 20; refine (refFold_calls _ _ n0 n1).mono ?_; rintro r w2 ⟨rfl, rfl⟩) | (go_at_call 19; refine (refGroup_calls _ _ (by omega) (by omega) w0 HB.out).mono ?_; rintro r w1 ⟨v1, rfl, hO, hB, hK⟩; rw [Int.toNat_natCast] at hO; have HO := Lib.hid hO; have HB1 := Lib.hid hB; have HK1 := Lib.hid hK; clear hO hB hK))
  go_ret2
  exact FormPost.mk HQ.out.1 HQ.out.2 rfl HK.out HO.out (fun _ h => h) HB1.out HK1.out

set_option maxHeartbeats 1000000 in
theorem form3 (w0 w : World) (x : Val) (A2 A3 : Option Addr) (c2 c3 : Nat) (hB : Below w0.heap.size w0 w) (hV : ValOk x) (hS : Small x)
    (h2 : (Kd.int .u8).C w A2 x.f2.length x.f2) (h3 : (Kd.int .i64).C w A3 x.f3.length x.f3) (hk : x.f0 % 6 = 3) :
    Calls Try.prog 12 #[.agg #[.int .u8 x.f0, .int .i64 x.f1, .slice A2 x.f2.length c2, .slice A3 x.f3.length c3]] w (FormPost w0 w x) := by
  obtain ⟨k1, k2, _⟩ := kinds hV.k0 hV.k1
  rw [hk] at k1 k2
  have HK := Lib.hid ((Kept.refl w (fun _ => False)).alloc (.cells #[.int .u8 x.f0, .int .i64 x.f1, .slice A2 x.f2.length c2, .slice A3 x.f3.length c3] 35))
  have HB := Lib.hid (below_alloc' hB (.cells #[.int .u8 x.f0, .int .i64 x.f1, .slice A2 x.f2.length c2, .slice A3 x.f3.length c3] 35))
  have H2 := Lib.hid (C_none h2 HK.out)
  have H3 := Lib.hid (C_none h3 HK.out)
  have n0 := hV.n0
  have n1 := hV.n1
  have l2 := hS.1
  have l3 := hS.2
  have HL := Lib.hid hV.li
  have HQ := Lib.hid (show badV x = false ∧ formB x = grp x.f2.length ++ x.f2 by simp [badV, formB, hk])
  clear hB hV hS h2 h3
  go_enter Try.func12, Try.ntmps12
  go_wp2_with (first | (go_at_call 26; refine (refString_calls w0 _ x.f2 A2 c2 HB.out H2.out (by omega)).mono ?_; rintro r w1 ⟨v1, rfl, hO, hB, hK⟩; have HO := Lib.hid hO; have HB1 := Lib.hid hB; have HK1 := Lib.hid hK; clear hO hB hK))
  go_ret2
  exact FormPost.mk HQ.out.1 HQ.out.2 rfl HK.out HO.out (fun _ h => h) HB1.out HK1.out

set_option maxHeartbeats 1000000 in
theorem form4 (w0 w : World) (x : Val) (A2 A3 : Option Addr) (c2 c3 : Nat) (hB : Below w0.heap.size w0 w) (hV : ValOk x) (hS : Small x)
    (h2 : (Kd.int .u8).C w A2 x.f2.length x.f2) (h3 : (Kd.int .i64).C w A3 x.f3.length x.f3) (hk : x.f0 % 6 = 4) :
    Calls Try.prog 12 #[.agg #[.int .u8 x.f0, .int .i64 x.f1, .slice A2 x.f2.length c2, .slice A3 x.f3.length c3]] w (FormPost w0 w x) := by
  obtain ⟨k1, k2, _⟩ := kinds hV.k0 hV.k1
  rw [hk] at k1 k2
  have HK := Lib.hid ((Kept.refl w (fun _ => False)).alloc (.cells #[.int .u8 x.f0, .int .i64 x.f1, .slice A2 x.f2.length c2, .slice A3 x.f3.length c3] 35))
  have HB := Lib.hid (below_alloc' hB (.cells #[.int .u8 x.f0, .int .i64 x.f1, .slice A2 x.f2.length c2, .slice A3 x.f3.length c3] 35))
  have H2 := Lib.hid (C_none h2 HK.out)
  have H3 := Lib.hid (C_none h3 HK.out)
  have n0 := hV.n0
  have n1 := hV.n1
  have l2 := hS.1
  have l3 := hS.2
  have HL := Lib.hid hV.li
  have HQ := Lib.hid (show badV x = false ∧ formB x = grp x.f2.length ++ x.f2 by simp [badV, formB, hk])
  clear hB hV hS h2 h3
  go_enter Try.func12, Try.ntmps12
  go_wp2_with (first | (go_at_call 26; refine (refString_calls w0 _ x.f2 A2 c2 HB.out H2.out (by omega)).mono ?_; rintro r w1 ⟨v1, rfl, hO, hB, hK⟩; have HO := Lib.hid hO; have HB1 := Lib.hid hB; have HK1 := Lib.hid hK; clear hO hB hK))
  go_ret2
  exact FormPost.mk HQ.out.1 HQ.out.2 rfl HK.out HO.out (fun _ h => h) HB1.out HK1.out

set_option maxHeartbeats 1000000 in
theorem form5 (w0 w : World) (x : Val) (A2 A3 : Option Addr) (c2 c3 : Nat) (hB : Below w0.heap.size w0 w) (hV : ValOk x) (hS : Small x)
    (h2 : (Kd.int .u8).C w A2 x.f2.length x.f2) (h3 : (Kd.int .i64).C w A3 x.f3.length x.f3) (hk : x.f0 % 6 = 5) :
    Calls Try.prog 12 #[.agg #[.int .u8 x.f0, .int .i64 x.f1, .slice A2 x.f2.length c2, .slice A3 x.f3.length c3]] w (FormPost w0 w x) := by
  obtain ⟨k1, k2, _⟩ := kinds hV.k0 hV.k1
  rw [hk] at k1 k2
  have HK := Lib.hid ((Kept.refl w (fun _ => False)).alloc (.cells #[.int .u8 x.f0, .int .i64 x.f1, .slice A2 x.f2.length c2, .slice A3 x.f3.length c3] 35))
  have HB := Lib.hid (below_alloc' hB (.cells #[.int .u8 x.f0, .int .i64 x.f1, .slice A2 x.f2.length c2, .slice A3 x.f3.length c3] 35))
  have H2 := Lib.hid (C_none h2 HK.out)
  have H3 := Lib.hid (C_none h3 HK.out)
  have n0 := hV.n0
  have n1 := hV.n1
  have l2 := hS.1
  have l3 := hS.2
  have HL := Lib.hid hV.li
  have HQ := Lib.hid (show badV x = false ∧ formB x = grp x.f3.length ++ zigs x.f3 by simp [badV, formB, hk])
  clear hB hV hS h2 h3
  go_enter Try.func12, Try.ntmps12
  go_wp2_with (first | (go_at_call 38; refine (refInts_calls w0 _ x.f3 A3 c3 HB.out H3.out HL.out (by omega)).mono ?_; rintro r w1 ⟨v1, rfl, hO, hB, hK⟩; have HO := Lib.hid hO; have HB1 := Lib.hid hB; have HK1 := Lib.hid hK; clear hO hB hK))
  go_ret2
  exact FormPost.mk HQ.out.1 HQ.out.2 rfl HK.out HO.out (fun _ h => h) HB1.out HK1.out

set_option maxHeartbeats 1000000 in
theorem form2t (w0 w : World) (x : Val) (A2 A3 : Option Addr) (c2 c3 : Nat) (hB : Below w0.heap.size w0 w) (hV : ValOk x) (hS : Small x)
    (h2 : (Kd.int .u8).C w A2 x.f2.length x.f2) (h3 : (Kd.int .i64).C w A3 x.f3.length x.f3) (hk : x.f0 % 6 = 2) (hn : ¬ x.f1 = 0) :
    Calls Try.prog 12 #[.agg #[.int .u8 x.f0, .int .i64 x.f1, .slice A2 x.f2.length c2, .slice A3 x.f3.length c3]] w (FormPost w0 w x) := by
  obtain ⟨k1, k2, _⟩ := kinds hV.k0 hV.k1
  rw [hk] at k1 k2
  have HK := Lib.hid ((Kept.refl w (fun _ => False)).alloc (.cells #[.int .u8 x.f0, .int .i64 x.f1, .slice A2 x.f2.length c2, .slice A3 x.f3.length c3] 35))
  have HB := Lib.hid (below_alloc' hB (.cells #[.int .u8 x.f0, .int .i64 x.f1, .slice A2 x.f2.length c2, .slice A3 x.f3.length c3] 35))
  have H2 := Lib.hid (C_none h2 HK.out)
  have H3 := Lib.hid (C_none h3 HK.out)
  have n0 := hV.n0
  have n1 := hV.n1
  have l2 := hS.1
  have l3 := hS.2
  have HL := Lib.hid hV.li
  have HQ := Lib.hid (show badV x = false ∧ formB x = [1] by simp [badV, formB, hk, boolB, hn])
  have d1 : (x.f1 != 0) = true := by simpa using hn
  clear hn
  have hs := hB.size
  have HO : Hid ((Kd.int .u8).R 5 ((w.alloc (.cells #[.int .u8 x.f0, .int .i64 x.f1, .slice A2 x.f2.length c2, .slice A3 x.f3.length c3] 35)).alloc (.cells #[.int .u8 1] 5)) w0.heap.size (fun k => w.heap.size + 1 ≤ k) (.slice (some ⟨w.heap.size + 1, 0, none⟩) 1 1) [1]) := by have h := R_one (w.alloc (.cells #[.int .u8 x.f0, .int .i64 x.f1, .slice A2 x.f2.length c2, .slice A3 x.f3.length c3] 35)) w0.heap.size 1 (by simp; omega); refine Lib.hid ?_; simpa using h
  clear hB hV hS h2 h3
  go_enter Try.func12, Try.ntmps12
  go_wp2_with fail
  go_ret2
  exact FormPost.mk HQ.out.1 HQ.out.2 rfl HK.out HO.out (fun k h => by simpa using h) (below_alloc' HB.out _) ((Kept.refl _ _).alloc _)

set_option maxHeartbeats 1000000 in
theorem form2f (w0 w : World) (x : Val) (A2 A3 : Option Addr) (c2 c3 : Nat) (hB : Below w0.heap.size w0 w) (hV : ValOk x) (hS : Small x)
    (h2 : (Kd.int .u8).C w A2 x.f2.length x.f2) (h3 : (Kd.int .i64).C w A3 x.f3.length x.f3) (hk : x.f0 % 6 = 2) (hn : x.f1 = 0) :
    Calls Try.prog 12 #[.agg #[.int .u8 x.f0, .int .i64 x.f1, .slice A2 x.f2.length c2, .slice A3 x.f3.length c3]] w (FormPost w0 w x) := by
  obtain ⟨k1, k2, _⟩ := kinds hV.k0 hV.k1
  rw [hk] at k1 k2
  have HK := Lib.hid ((Kept.refl w (fun _ => False)).alloc (.cells #[.int .u8 x.f0, .int .i64 x.f1, .slice A2 x.f2.length c2, .slice A3 x.f3.length c3] 35))
  have HB := Lib.hid (below_alloc' hB (.cells #[.int .u8 x.f0, .int .i64 x.f1, .slice A2 x.f2.length c2, .slice A3 x.f3.length c3] 35))
  have H2 := Lib.hid (C_none h2 HK.out)
  have H3 := Lib.hid (C_none h3 HK.out)
  have n0 := hV.n0
  have n1 := hV.n1
  have l2 := hS.1
  have l3 := hS.2
  have HL := Lib.hid hV.li
  have HQ := Lib.hid (show badV x = false ∧ formB x = [0] by simp [badV, formB, hk, boolB, hn])
  have d1 : (x.f1 != 0) = false := by simpa using hn
  clear hn
  have hs := hB.size
  have HO : Hid ((Kd.int .u8).R 5 ((w.alloc (.cells #[.int .u8 x.f0, .int .i64 x.f1, .slice A2 x.f2.length c2, .slice A3 x.f3.length c3] 35)).alloc (.cells #[.int .u8 0] 5)) w0.heap.size (fun k => w.heap.size + 1 ≤ k) (.slice (some ⟨w.heap.size + 1, 0, none⟩) 1 1) [0]) := by have h := R_one (w.alloc (.cells #[.int .u8 x.f0, .int .i64 x.f1, .slice A2 x.f2.length c2, .slice A3 x.f3.length c3] 35)) w0.heap.size 0 (by simp; omega); refine Lib.hid ?_; simpa using h
  clear hB hV hS h2 h3
  go_enter Try.func12, Try.ntmps12
  go_wp2_with fail
  go_ret2
  exact FormPost.mk HQ.out.1 HQ.out.2 rfl HK.out HO.out (fun k h => by simpa using h) (below_alloc' HB.out _) ((Kept.refl _ _).alloc _)

theorem form_calls (w0 w : World) (x : Val) (A2 A3 : Option Addr) (c2 c3 : Nat) (hB : Below w0.heap.size w0 w) (hV : ValOk x) (hS : Small x)
    (h2 : (Kd.int .u8).C w A2 x.f2.length x.f2) (h3 : (Kd.int .i64).C w A3 x.f3.length x.f3) :
    Calls Try.prog 12 #[.agg #[.int .u8 x.f0, .int .i64 x.f1, .slice A2 x.f2.length c2, .slice A3 x.f3.length c3]] w (FormPost w0 w x) := by
  rcases (kinds hV.k0 hV.k1).2.2 with h | h | h | h | h | h
  · by_cases hn : x.f1 < 0
    · exact form0n w0 w x A2 A3 c2 c3 hB hV hS h2 h3 h hn
    · exact form0 w0 w x A2 A3 c2 c3 hB hV hS h2 h3 h hn
  · exact form1 w0 w x A2 A3 c2 c3 hB hV hS h2 h3 h
  · by_cases hn : x.f1 = 0
    · exact form2f w0 w x A2 A3 c2 c3 hB hV hS h2 h3 h hn
    · exact form2t w0 w x A2 A3 c2 c3 hB hV hS h2 h3 h hn
  · exact form3 w0 w x A2 A3 c2 c3 hB hV hS h2 h3 h
  · exact form4 w0 w x A2 A3 c2 c3 hB hV hS h2 h3 h
  · exact form5 w0 w x A2 A3 c2 c3 hB hV hS h2 h3 h
end Go.Proofs.Ytpbmfdflmmeghaa.Wire
