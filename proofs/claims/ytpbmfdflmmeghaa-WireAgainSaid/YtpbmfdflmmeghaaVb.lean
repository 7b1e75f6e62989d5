import Derived.Test.YtpbmfdflmmeghaaVa
namespace Go.Proofs.Ytpbmfdflmmeghaa.Wire
open Go.RowKit Go.Proofs.YtpbmfdflmmeghaaW.PrintWords Go.Proofs.YtpbmfdflmmeghaaW.PrintLast Go.Proofs.YtpbmfdflmmeghaaW.PrintMore
set_option linter.unusedVariables false
set_option linter.unusedSimpArgs false

/-- The bytes of a value that has an encoding. -/
def formB (x : Val) : List Int :=
  if x.f0 % 6 = 0 then grp x.f1.toNat else if x.f0 % 6 = 1 then grp (zig x.f1) else if x.f0 % 6 = 2 then boolB (x.f1 != 0)
  else if x.f0 % 6 = 3 then grp x.f2.length ++ x.f2 else if x.f0 % 6 = 4 then grp x.f2.length ++ x.f2 else grp x.f3.length ++ zigs x.f3
def badV (x : Val) : Bool := decide (x.f0 % 6 = 0) && decide (x.f1 < 0)
def wrE (e : Int) (out : List Int) (x : Val) : Int := if badV x = true then (if e = 0 then 2 else e) else putE e out (formB x)
def wrO (e : Int) (out : List Int) (x : Val) : List Int := if badV x = true then out else putO e out (formB x)

theorem kinds {a : Int} (h0 : 0 ≤ a) (h1 : a < 256) : Int.tmod a 6 = a % 6 ∧ IntKind.u8.wrap (a % 6) = a % 6 ∧ (a % 6 = 0 ∨ a % 6 = 1 ∨ a % 6 = 2 ∨ a % 6 = 3 ∨ a % 6 = 4 ∨ a % 6 = 5) := by
  refine ⟨Int.tmod_eq_emod_of_nonneg h0, ?_, by omega⟩
  rw [IntKind.wrap_u8]; omega
theorem bytesOf_str (l : List Int) (h : ∀ b ∈ l, 0 ≤ b ∧ b < 256) : bytesOf (strOfNums l) = l := by
  unfold bytesOf
  rw [strOfNums_data, List.map_map]
  conv => rhs; rw [← List.map_id l]
  refine List.map_congr_left fun b hb => ?_
  have := h b hb
  simp only [Function.comp, id]
  rw [UInt8.toNat_ofNat']
  omega

set_option maxHeartbeats 1000000 in
theorem write0 (w0 w : World) (wb : Nat) (ok : Nat → Prop) (v : Value) (e : Int) (out : List Int) (x : Val) (A2 A3 : Option Addr) (c2 c3 : Nat) (hB : Below w0.heap.size w0 w) (hW : WrAt w w0.heap.size wb ok v e out) (hV : ValOk x) (hS : Small x)
    (h2 : (Kd.int .u8).C w A2 x.f2.length x.f2) (h3 : (Kd.int .i64).C w A3 x.f3.length x.f3) (hk : x.f0 % 6 = 0) :
    Calls Try.prog 11 #[.pointer (some ⟨wb, 0, none⟩), .agg #[.int .u8 x.f0, .int .i64 x.f1, .slice A2 x.f2.length c2, .slice A3 x.f3.length c3]] w (WPost w0 w wb ok (wrE e out x) (wrO e out x)) := by
  obtain ⟨k1, k2, _⟩ := kinds hV.k0 hV.k1
  rw [hk] at k1 k2
  have HK := Lib.hid ((Kept.refl w (fun _ => False)).alloc (.cells #[.int .u8 x.f0, .int .i64 x.f1, .slice A2 x.f2.length c2, .slice A3 x.f3.length c3] 35))
  have HQ : Hid (wrE e out x = uintE e out x.f1 ∧ wrO e out x = uintO e out x.f1) := by
    refine Lib.hid ?_
    simp [wrE, wrO, badV, formB, hk, uintE, uintO]
  have HC := Lib.hid (uint_calls w0 _ wb ok v e out x.f1 (below_alloc' hB _) (hW.kept HK.out (fun _ _ => id)) hV.n0 hV.n1)
  clear hB hW h2 h3
  go_enter Try.func11, Try.ntmps11
  go_wp2_with (first | (go_at_call 17; refine HC.out.mono ?_; rintro r w1 hP; have HP := Lib.hid (WPost.after HK.out hP); obtain ⟨rfl, hP⟩ := hP; clear hP))
  go_end0
  rw [HQ.out.1, HQ.out.2]
  exact HP.out

set_option maxHeartbeats 1000000 in
theorem write1 (w0 w : World) (wb : Nat) (ok : Nat → Prop) (v : Value) (e : Int) (out : List Int) (x : Val) (A2 A3 : Option Addr) (c2 c3 : Nat) (hB : Below w0.heap.size w0 w) (hW : WrAt w w0.heap.size wb ok v e out) (hV : ValOk x) (hS : Small x)
    (h2 : (Kd.int .u8).C w A2 x.f2.length x.f2) (h3 : (Kd.int .i64).C w A3 x.f3.length x.f3) (hk : x.f0 % 6 = 1) :
    Calls Try.prog 11 #[.pointer (some ⟨wb, 0, none⟩), .agg #[.int .u8 x.f0, .int .i64 x.f1, .slice A2 x.f2.length c2, .slice A3 x.f3.length c3]] w (WPost w0 w wb ok (wrE e out x) (wrO e out x)) := by
  obtain ⟨k1, k2, _⟩ := kinds hV.k0 hV.k1
  rw [hk] at k1 k2
  have HK := Lib.hid ((Kept.refl w (fun _ => False)).alloc (.cells #[.int .u8 x.f0, .int .i64 x.f1, .slice A2 x.f2.length c2, .slice A3 x.f3.length c3] 35))
  have HQ : Hid (wrE e out x = putE e out (grp (zig x.f1)) ∧ wrO e out x = putO e out (grp (zig x.f1))) := by
    refine Lib.hid ?_
    simp [wrE, wrO, badV, formB, hk]
  have HC := Lib.hid (int_calls w0 _ wb ok v e out x.f1 (below_alloc' hB _) (hW.kept HK.out (fun _ _ => id)) hV.n0 hV.n1)
  clear hB hW h2 h3
  go_enter Try.func11, Try.ntmps11
  go_wp2_with (first | (go_at_call 18; refine HC.out.mono ?_; rintro r w1 hP; have HP := Lib.hid (WPost.after HK.out hP); obtain ⟨rfl, hP⟩ := hP; clear hP))
  go_end0
  rw [HQ.out.1, HQ.out.2]
  exact HP.out

set_option maxHeartbeats 1000000 in
theorem write2 (w0 w : World) (wb : Nat) (ok : Nat → Prop) (v : Value) (e : Int) (out : List Int) (x : Val) (A2 A3 : Option Addr) (c2 c3 : Nat) (hB : Below w0.heap.size w0 w) (hW : WrAt w w0.heap.size wb ok v e out) (hV : ValOk x) (hS : Small x)
    (h2 : (Kd.int .u8).C w A2 x.f2.length x.f2) (h3 : (Kd.int .i64).C w A3 x.f3.length x.f3) (hk : x.f0 % 6 = 2) :
    Calls Try.prog 11 #[.pointer (some ⟨wb, 0, none⟩), .agg #[.int .u8 x.f0, .int .i64 x.f1, .slice A2 x.f2.length c2, .slice A3 x.f3.length c3]] w (WPost w0 w wb ok (wrE e out x) (wrO e out x)) := by
  obtain ⟨k1, k2, _⟩ := kinds hV.k0 hV.k1
  rw [hk] at k1 k2
  have HK := Lib.hid ((Kept.refl w (fun _ => False)).alloc (.cells #[.int .u8 x.f0, .int .i64 x.f1, .slice A2 x.f2.length c2, .slice A3 x.f3.length c3] 35))
  have HQ : Hid (wrE e out x = putE e out (boolB (x.f1 != 0)) ∧ wrO e out x = putO e out (boolB (x.f1 != 0))) := by
    refine Lib.hid ?_
    simp [wrE, wrO, badV, formB, hk]
  have HC := Lib.hid (bool_calls w0 _ wb ok v e out (x.f1 != 0) (below_alloc' hB _) (hW.kept HK.out (fun _ _ => id)))
  clear hB hW h2 h3
  go_enter Try.func11, Try.ntmps11
  go_wp2_with (first | (go_at_call 16; refine HC.out.mono ?_; rintro r w1 hP; have HP := Lib.hid (WPost.after HK.out hP); obtain ⟨rfl, hP⟩ := hP; clear hP))
  go_end0
  rw [HQ.out.1, HQ.out.2]
  exact HP.out

set_option maxHeartbeats 1000000 in
theorem write3 (w0 w : World) (wb : Nat) (ok : Nat → Prop) (v : Value) (e : Int) (out : List Int) (x : Val) (A2 A3 : Option Addr) (c2 c3 : Nat) (hB : Below w0.heap.size w0 w) (hW : WrAt w w0.heap.size wb ok v e out) (hV : ValOk x) (hS : Small x)
    (h2 : (Kd.int .u8).C w A2 x.f2.length x.f2) (h3 : (Kd.int .i64).C w A3 x.f3.length x.f3) (hk : x.f0 % 6 = 3) :
    Calls Try.prog 11 #[.pointer (some ⟨wb, 0, none⟩), .agg #[.int .u8 x.f0, .int .i64 x.f1, .slice A2 x.f2.length c2, .slice A3 x.f3.length c3]] w (WPost w0 w wb ok (wrE e out x) (wrO e out x)) := by
  obtain ⟨k1, k2, _⟩ := kinds hV.k0 hV.k1
  rw [hk] at k1 k2
  have HK := Lib.hid ((Kept.refl w (fun _ => False)).alloc (.cells #[.int .u8 x.f0, .int .i64 x.f1, .slice A2 x.f2.length c2, .slice A3 x.f3.length c3] 35))
  have HQ : Hid (wrE e out x = putE e out (grp x.f2.length ++ x.f2) ∧ wrO e out x = putO e out (grp x.f2.length ++ x.f2)) := by
    refine Lib.hid ?_
    simp [wrE, wrO, badV, formB, hk]
  have HC := Lib.hid (bytes_calls w0 _ wb ok v e out x.f2 A2 c2 (below_alloc' hB _) (hW.kept HK.out (fun _ _ => id)) (C_none h2 HK.out) (by have := hS.1; omega))
  clear hB hW h2 h3
  go_enter Try.func11, Try.ntmps11
  go_wp2_with (first | (go_at_call 14; refine HC.out.mono ?_; rintro r w1 hP; have HP := Lib.hid (WPost.after HK.out hP); obtain ⟨rfl, hP⟩ := hP; clear hP))
  go_end0
  rw [HQ.out.1, HQ.out.2]
  exact HP.out

set_option maxHeartbeats 1000000 in
theorem write4 (w0 w : World) (wb : Nat) (ok : Nat → Prop) (v : Value) (e : Int) (out : List Int) (x : Val) (A2 A3 : Option Addr) (c2 c3 : Nat) (hB : Below w0.heap.size w0 w) (hW : WrAt w w0.heap.size wb ok v e out) (hV : ValOk x) (hS : Small x)
    (h2 : (Kd.int .u8).C w A2 x.f2.length x.f2) (h3 : (Kd.int .i64).C w A3 x.f3.length x.f3) (hk : x.f0 % 6 = 4) :
    Calls Try.prog 11 #[.pointer (some ⟨wb, 0, none⟩), .agg #[.int .u8 x.f0, .int .i64 x.f1, .slice A2 x.f2.length c2, .slice A3 x.f3.length c3]] w (WPost w0 w wb ok (wrE e out x) (wrO e out x)) := by
  obtain ⟨k1, k2, _⟩ := kinds hV.k0 hV.k1
  rw [hk] at k1 k2
  have HK := Lib.hid ((Kept.refl w (fun _ => False)).alloc (.cells #[.int .u8 x.f0, .int .i64 x.f1, .slice A2 x.f2.length c2, .slice A3 x.f3.length c3] 35))
  have HQ : Hid (wrE e out x = putE e out (grp x.f2.length ++ x.f2) ∧ wrO e out x = putO e out (grp x.f2.length ++ x.f2)) := by
    refine Lib.hid ?_
    simp [wrE, wrO, badV, formB, hk]
  have HC := Lib.hid (show Calls _ _ _ _ (WPost w0 _ wb ok (putE e out (grp x.f2.length ++ x.f2)) (putO e out (grp x.f2.length ++ x.f2))) from by have h := string_calls w0 _ wb ok v e out (strOfNums x.f2) (below_alloc' hB _) (hW.kept HK.out (fun _ _ => id)) (by rw [strOfNums_size]; have := hS.1; omega); rw [strOfNums_size, bytesOf_str _ hV.tx] at h; exact h)
  have hcv : ∀ W, Kept w W (fun _ => False) → StrOf (.slice A2 x.f2.length c2) x.f2 W := fun W hk => Kd.C_string Try.underlying28 Try.underlying5 Try.underlying9 (C_none h2 hk)
  have hc := hcv _ HK.out
  unfold StrOf at hc
  clear hB hW h2 h3 hcv
  go_enter Try.func11, Try.ntmps11
  go_wp2_with (first | (go_at_call 36; refine HC.out.mono ?_; rintro r w1 hP; have HP := Lib.hid (WPost.after HK.out hP); obtain ⟨rfl, hP⟩ := hP; clear hP))
  go_end0
  rw [HQ.out.1, HQ.out.2]
  exact HP.out

set_option maxHeartbeats 1000000 in
theorem write5 (w0 w : World) (wb : Nat) (ok : Nat → Prop) (v : Value) (e : Int) (out : List Int) (x : Val) (A2 A3 : Option Addr) (c2 c3 : Nat) (hB : Below w0.heap.size w0 w) (hW : WrAt w w0.heap.size wb ok v e out) (hV : ValOk x) (hS : Small x)
    (h2 : (Kd.int .u8).C w A2 x.f2.length x.f2) (h3 : (Kd.int .i64).C w A3 x.f3.length x.f3) (hk : x.f0 % 6 = 5) :
    Calls Try.prog 11 #[.pointer (some ⟨wb, 0, none⟩), .agg #[.int .u8 x.f0, .int .i64 x.f1, .slice A2 x.f2.length c2, .slice A3 x.f3.length c3]] w (WPost w0 w wb ok (wrE e out x) (wrO e out x)) := by
  obtain ⟨k1, k2, _⟩ := kinds hV.k0 hV.k1
  rw [hk] at k1 k2
  have HK := Lib.hid ((Kept.refl w (fun _ => False)).alloc (.cells #[.int .u8 x.f0, .int .i64 x.f1, .slice A2 x.f2.length c2, .slice A3 x.f3.length c3] 35))
  have HQ : Hid (wrE e out x = putE e out (grp x.f3.length ++ zigs x.f3) ∧ wrO e out x = putO e out (grp x.f3.length ++ zigs x.f3)) := by
    refine Lib.hid ?_
    simp [wrE, wrO, badV, formB, hk]
  have HC := Lib.hid (ints_calls w0 _ wb ok v e out x.f3 A3 c3 (below_alloc' hB _) (hW.kept HK.out (fun _ _ => id)) (C_none h3 HK.out) hV.li (by have := hS.2; omega))
  clear hB hW h2 h3
  go_enter Try.func11, Try.ntmps11
  go_wp2_with (first | (go_at_call 37; refine HC.out.mono ?_; rintro r w1 hP; have HP := Lib.hid (WPost.after HK.out hP); obtain ⟨rfl, hP⟩ := hP; clear hP))
  go_end0
  rw [HQ.out.1, HQ.out.2]
  exact HP.out

theorem write_calls (w0 w : World) (wb : Nat) (ok : Nat → Prop) (v : Value) (e : Int) (out : List Int) (x : Val) (A2 A3 : Option Addr) (c2 c3 : Nat) (hB : Below w0.heap.size w0 w) (hW : WrAt w w0.heap.size wb ok v e out) (hV : ValOk x) (hS : Small x)
    (h2 : (Kd.int .u8).C w A2 x.f2.length x.f2) (h3 : (Kd.int .i64).C w A3 x.f3.length x.f3) :
    Calls Try.prog 11 #[.pointer (some ⟨wb, 0, none⟩), .agg #[.int .u8 x.f0, .int .i64 x.f1, .slice A2 x.f2.length c2, .slice A3 x.f3.length c3]] w (WPost w0 w wb ok (wrE e out x) (wrO e out x)) := by
  rcases (kinds hV.k0 hV.k1).2.2 with h | h | h | h | h | h
  · exact write0 w0 w wb ok v e out x A2 A3 c2 c3 hB hW hV hS h2 h3 h
  · exact write1 w0 w wb ok v e out x A2 A3 c2 c3 hB hW hV hS h2 h3 h
  · exact write2 w0 w wb ok v e out x A2 A3 c2 c3 hB hW hV hS h2 h3 h
  · exact write3 w0 w wb ok v e out x A2 A3 c2 c3 hB hW hV hS h2 h3 h
  · exact write4 w0 w wb ok v e out x A2 A3 c2 c3 hB hW hV hS h2 h3 h
  · exact write5 w0 w wb ok v e out x A2 A3 c2 c3 hB hW hV hS h2 h3 h
end Go.Proofs.Ytpbmfdflmmeghaa.Wire
