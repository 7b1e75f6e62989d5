import Derived.Test.YtpbmfdflmmeghaaVc
namespace Go.Proofs.Ytpbmfdflmmeghaa.Wire
open Go.RowKit Go.Proofs.YtpbmfdflmmeghaaW.PrintWords Go.Proofs.YtpbmfdflmmeghaaW.PrintLast Go.Proofs.YtpbmfdflmmeghaaW.PrintMore
set_option linter.unusedVariables false
set_option linter.unusedSimpArgs false

/-- The bytes of the values, as the law gathers them. -/
def allB : List Val → List Int
  | [] => []
  | x :: l => (if badV x = true then [] else formB x) ++ allB l
def anyBad (l : List Val) : Bool := l.any badV
theorem allB_take (l : List Val) (k : Nat) (h : k < l.length) : allB (l.take (k + 1)) = allB (l.take k) ++ (if badV (l.getD k zVal) = true then [] else formB (l.getD k zVal)) := by
  induction l generalizing k with
  | nil => simp at h
  | cons a l ih =>
    cases k with
    | zero => simp [allB]
    | succ k => simp only [List.take_succ_cons, allB, List.append_assoc]; rw [ih k (by simpa using h)]; simp
theorem anyBad_take (l : List Val) (k : Nat) (h : k < l.length) : anyBad (l.take (k + 1)) = (anyBad (l.take k) || badV (l.getD k zVal)) := by
  induction l generalizing k with
  | nil => simp at h
  | cons a l ih =>
    cases k with
    | zero => simp [anyBad]
    | succ k =>
      have := ih k (by simpa using h)
      unfold anyBad at *
      simp only [List.take_succ_cons, List.any_cons]; rw [this]; simp [Bool.or_assoc]
theorem formB_len (x : Val) (hV : ValOk x) (hS : Small x) : (formB x).length ≤ 520 := by
  have h1 : ∀ n : Nat, n < 18446744073709551616 → (grp n).length ≤ 10 := fun n h => grp_len10 h
  have a1 := h1 x.f1.toNat (by have := hV.n1; omega)
  have a2 := h1 (zig x.f1) (zig_lt _ hV.n0 hV.n1)
  have a3 := h1 x.f2.length (by have := hS.1; omega)
  have a4 := h1 x.f3.length (by have := hS.2; omega)
  have a5 := zigs_len x.f3 hV.li
  have s1 := hS.1
  have s2 := hS.2
  unfold formB
  split
  · omega
  split
  · omega
  split
  · simp [boolB]
  split
  · rw [List.length_append]; omega
  split
  · rw [List.length_append]; omega
  · rw [List.length_append]; omega
theorem allB_len (l : List Val) (hV : ∀ x ∈ l, ValOk x) (hS : ∀ x ∈ l, Small x) : (allB l).length ≤ 520 * l.length := by
  induction l with
  | nil => simp [allB]
  | cons a l ih =>
    have h1 := ih (fun x hx => hV x (List.mem_cons_of_mem _ hx)) (fun x hx => hS x (List.mem_cons_of_mem _ hx))
    have h2 := formB_len a (hV a (by simp)) (hS a (by simp))
    simp only [allB, List.length_append, List.length_cons]
    split <;> simp <;> omega

/-- The writer's state behind the values, if few are written. -/
def stE (b : Bool) : Int := if b = true then 2 else 0
theorem wr_step (b : Bool) (out : List Int) (x : Val) (hl : b = false → out.length + 520 ≤ 65536) (hV : ValOk x) (hS : Small x) :
    wrE (stE b) out x = stE (b || badV x) ∧ (b = false → wrO (stE b) out x = out ++ (if badV x = true then [] else formB x)) := by
  have hf := formB_len x hV hS
  cases b with
  | true =>
    refine ⟨?_, fun h => by cases h⟩
    unfold wrE stE putE
    cases h : badV x <;> simp
  | false =>
    have := hl rfl
    unfold wrE wrO stE putE putO
    cases h : badV x <;> simp <;> omega

theorem at_Val2 {w : World} {ad : Addr} {n : Nat} {xs : List Val} (h : Kd.C kVal w (some ad) n xs) (i : Nat) (h1 : i < n) : ∃ A2 c2 A3 c3, w.cell? (ad.add (i * 4)) = some (.int .u8 (xs.getD i zVal).f0) ∧ w.cell? ⟨(ad.add (i * 4)).block, (ad.add (i * 4)).off + 1, none⟩ = some (.int .i64 (xs.getD i zVal).f1) ∧ w.cell? ⟨(ad.add (i * 4)).block, (ad.add (i * 4)).off + 2, none⟩ = some (.slice A2 (xs.getD i zVal).f2.length c2) ∧ w.cell? ⟨(ad.add (i * 4)).block, (ad.add (i * 4)).off + 3, none⟩ = some (.slice A3 (xs.getD i zVal).f3.length c3) ∧ (Kd.int .u8).C w A2 (xs.getD i zVal).f2.length (xs.getD i zVal).f2 ∧ (Kd.int .i64).C w A3 (xs.getD i zVal).f3.length (xs.getD i zVal).f3 := by
  obtain ⟨ad', A2, c2, A3, c3, e, h⟩ := at_Val h i h1
  obtain rfl := Option.some.inj e
  exact ⟨A2, c2, A3, c3, h⟩
theorem getD_mem {l : List Val} {k : Nat} (h : k < l.length) : l.getD k zVal ∈ l := by
  have e : l.getD k zVal = l[k] := by simp [List.getD, h]
  rw [e]; exact List.getElem_mem h

set_option maxRecDepth 100000 in
set_option maxHeartbeats 4000000 in
theorem writes_walk (w0 : World) (l : List Val) (A : Option Addr) (c : Nat) (hC : Kd.C kVal w0 A l.length l) (hV : ∀ x ∈ l, ValOk x) :
    Calls Try.prog 3 #[.slice A l.length c] w0 (fun r w' => r = .returned (.bool true) ∧ Below w0.heap.size w0 w') := by
  have HC := Lib.hid hC
  have HV := Lib.hid hV
  have HG := Lib.hid (large_calls w0 l A c hC)
  clear hC hV
  go_enter Try.func3, Try.ntmps3
  go_wp2_with fail
  refine HG.out.mono ?_
  rintro r w1 ⟨⟨b, rfl, hb⟩, rfl⟩
  clear HG
  cases b with
  | true =>
    go_wp2_with (first | (go_at_call 10; refine (known_calls _).mono ?_; rintro r w2 ⟨rfl, hb⟩; have HB := Lib.hid hb; clear hb))
    go_ret
    exact ⟨rfl, HB.out⟩
  | false =>
  obtain ⟨hn, hS⟩ := hb rfl
  have HS := Lib.hid hS
  have HW0 := Lib.hid (WrAt.new (w0 := w0) (w := w0) (Nat.le_refl _))
  have HB0 := Lib.hid (below_alloc' (Below.refl w0.heap.size w0) (.cells #[.int .i64 0, .slice none 0 0] 30))
  clear hb hS
  go_wp2_with fail
  go_loopg [4, 5, 6] l.length (fun g v4 v5 v6 w' => ∃ k : Nat, v6 = .int .i64 k ∧ k ≤ l.length ∧ Aside0 (g + k = l.length) ∧ ∃ b, v5 = .bool b ∧ Aside0 (b = anyBad (l.take k)) ∧
    ∃ (okW okO : Nat → Prop) (vw : Value) (out : List Int), Aside0 (WrAt w' w0.heap.size w0.heap.size okW vw (stE b) out) ∧ Aside0 (b = false → out = allB (l.take k)) ∧
    Aside0 ((Kd.int .u8).R 5 w' w0.heap.size okO v4 (allB (l.take k))) ∧ Aside0 (∀ k, okW k → ¬ okO k) ∧ Aside0 (Below w0.heap.size w0 w'))
  case atStart => exact ⟨0, rfl, Nat.zero_le _, ⟨rfl⟩, false, rfl, ⟨rfl⟩, _, fun _ => False, _, [], ⟨HW0.out⟩, ⟨fun _ => rfl⟩, ⟨Kd.R_nil _ _ _ _ _⟩, ⟨fun _ _ => id⟩, ⟨HB0.out⟩⟩
  case round =>
    obtain ⟨k, rfl, hk, HM, b, rfl, HBD, okW, okO, vw, out, HW, HE, HO, HD, HB⟩ := hrel
    by_cases h : k < l.length
    · have c1 : decide ((k : Int) < (l.length : Int)) = true := decide_eq_true (by omega)
      have HVx := Lib.hid (HV.out _ (getD_mem h))
      have HSx := Lib.hid (HS.out _ (getD_mem h))
      obtain ⟨ad, A2, c2, A3, c3, hA, e0, e1, e2, e3, g2, g3⟩ := at_Val (Kd.C_below HC.out HB.out) k h
      subst hA
      have HAT := Lib.hid (fun (W : World) (hb : Below w0.heap.size w0 W) => at_Val2 (Kd.C_below HC.out hb) k h)
      have HTA := Lib.hid (allB_take l k h)
      have HTB := Lib.hid (anyBad_take l k h)
      have HLN := Lib.hid (allB_len (l.take k) (fun x hx => HV.out x (List.mem_of_mem_take hx)) (fun x hx => HS.out x (List.mem_of_mem_take hx)))
      have hlt : (l.take k).length ≤ 19 := by rw [List.length_take]; omega
      generalize l.getD k zVal = x at e0 e1 e2 e3 g2 g3 HVx HSx HAT HTA HTB
      have HST := Lib.hid (wr_step b out x (fun hb => by have := HLN.out; rw [HE.out hb]; omega) HVx.out HSx.out)
      have HG2 := Lib.hid g2; have HG3 := Lib.hid g3
      clear g2 g3
      go_wp2_with fail
      refine (write_calls w0 wr w0.heap.size okW vw _ out x A2 A3 c2 c3 HB.out HW.out HVx.out HSx.out HG2.out HG3.out).mono ?_
      rintro r w2 ⟨rfl, vw2, hW, hB, hK⟩
      rw [HST.out.1] at hW
      have HW2 := Lib.hid hW.bound
      have HB2 := Lib.hid hB
      have HO2 := Lib.hid (Kd.R_kept (Kd.R_mono (ok' := fun k => okO k ∧ k < wr.heap.size) (Kd.R_bound HO.out) (fun _ h => ⟨h.1, h.2.2.1⟩)) hK (fun k hk h => HD.out k h hk.1))
      have HD2 := Lib.hid (show ∀ k, ((okW k ∨ wr.heap.size ≤ k) ∧ k < w2.heap.size) → ¬ (okO k ∧ k < wr.heap.size) from fun k h1 h2 => h1.1.elim (fun h => HD.out k h h2.1) (fun h => by omega))
      have HE2 := Lib.hid (show (b || badV x) = false → wrO (stE b) out x = allB (l.take k) ++ (if badV x = true then [] else formB x) from fun h => by
        have hb : b = false := (Bool.or_eq_false_iff.1 h).1
        rw [HST.out.2 hb, HE.out hb])
      clear hW hB hK HG2 HG3 e0 e1 e2 e3
      obtain ⟨B2, c2', B3, c3', e0, e1, e2, e3, g2, g3⟩ := HAT.out w2 HB2.out
      have HG2 := Lib.hid g2; have HG3 := Lib.hid g3
      clear g2 g3 HW HO HE HB
      go_wp2_with fail
      refine (form_calls w0 w2 x B2 B3 c2' c3' HB2.out HVx.out HSx.out HG2.out HG3.out).mono ?_
      rintro r w3 ⟨vf, rfl, hO, hB, hK⟩
      have HFL := Lib.hid (show (if badV x = true then [] else formB x).length ≤ 520 by have := formB_len x HVx.out HSx.out; split <;> simp <;> omega)
      generalize (if badV x = true then ([] : List Int) else formB x) = F at hO HTA HE2 HFL
      obtain ⟨Af, cf, rfl⟩ := Kd.R_slice hO
      have HF3 := Lib.hid ((Kd.R_reads' hO).2.2)
      have HB3 := Lib.hid hB
      have HW3 := Lib.hid (HW2.out.kept hK (fun _ _ => id))
      have HO3 := Lib.hid (Kd.R_mono (ok' := fun k => (okO k ∧ k < wr.heap.size) ∨ w3.heap.size ≤ k) (Kd.R_kept HO2.out hK (fun _ _ => id)) (fun _ h => .inl h))
      have HD3 := Lib.hid (show ∀ k, ((okW k ∨ wr.heap.size ≤ k) ∧ k < w2.heap.size) → ¬ ((okO k ∧ k < wr.heap.size) ∨ w3.heap.size ≤ k) from fun k h1 h2 => h2.elim (HD2.out k h1) (fun h3 => by have := hK.1; omega))
      have HLT := Lib.hid (show (allB (l.take k)).length + F.length ≤ 100000 by have := HLN.out; have := HFL.out; omega)
      clear hO hB hK HW2 HO2 HD2 HB2 HAT HFL e0 e1 e2 e3 HG2 HG3 HVx HSx HST
      have HBD2 := Lib.hid (show (b || badV x) = anyBad (l.take (k + 1)) by rw [HTB.out, HBD.out])
      clear HTB HBD
      generalize badV x = bx at HW3 HE2 HBD2
      cases b with
      | true =>
        cases bx with
        | true =>
          go_wp2_with (first | ((with_reducible refine gate_builtin (b := .append) (xs := #[.tmp 38, .tmp 39]) rfl ?_); at_builtin; (refine Kd.R_append_rows (Kd.int .u8) (w0 := w0) w0.heap.size rfl (.tmp 38) (.tmp 39) 28 5 (.int .u8 0) 1 rfl Try.underlying28 infoB rfl (by decide) (by decide) u4 (allB (l.take k)) F Af _ cf (fun k => (okO k ∧ k < wr.heap.size) ∨ w3.heap.size ≤ k) (fun _ => False) rfl rfl ?aO ?aC (fun _ _ hp => hp) (fun _ hk => hk.elim) ?aF ?aB ?aS ?aL ?_; (case aB => exact (by repeat (first | (with_reducible first | exact HB3.out | apply below_alloc | apply pw_below_drewN | apply below_drew1) | exact HB3.out))); (case aF => exact (fun k hk => .inr hk)); (case aO => first | exact HO3.out | exact (by (with_reducible repeat (first | apply Kd.R_alloc | apply Kd.R_drewN | apply Kd.R_drew)); exact HO3.out)); (case aC => exact HF3.out); (case aS => exact (below_size (by repeat (first | (with_reducible first | exact HB3.out | apply below_alloc | apply pw_below_drewN | apply below_drew1) | exact HB3.out)))); (case aL => exact (by have := HLT.out; omega)); intro v1 w1 hO1 hB1 hG1 hA1; have HO1 := Lib.hid hO1; have HB1 := Lib.hid hB1; have HG1 := Lib.hid hG1; clear hO1 hB1 hG1 hA1)))
          have HK1 := Lib.hid (Kept.of_grown HG1.out (Kept.refl w3 (fun k => (okO k ∧ k < wr.heap.size) ∨ w3.heap.size ≤ k)) (fun k hk => .inl (HO3.out.1 k hk)))
          have HW4 : Hid (WrAt w1 w0.heap.size w0.heap.size (fun k => (okW k ∨ wr.heap.size ≤ k) ∧ k < w2.heap.size) vw2 2 (wrO (stE true) out x)) := Lib.hid (HW3.out.kept HK1.out HD3.out)
          have HO4 := Lib.hid (show (Kd.int .u8).R 5 w1 w0.heap.size (fun k => (okO k ∧ k < wr.heap.size) ∨ w3.heap.size ≤ k) v1 (allB (l.take (k + 1))) by rw [HTA.out]; exact HO1.out)
          clear HO1 HG1 HK1 HW3 HO3 HF3 HB3
          refine (end_calls w0 w1 _ _ _ _ _ HB1.out HW4.out).mono ?_
          rintro r w5 ⟨vg, rfl, hO, hB, hK⟩
          rw [if_neg (by decide)] at hO
          obtain ⟨Ag, cg, rfl⟩ := Kd.R_slice hO
          have HB5 := Lib.hid hB
          have HW5 := Lib.hid (HW4.out.kept hK (fun _ _ => id))
          have HO5 := Lib.hid (Kd.R_kept HO4.out hK (fun _ _ => id))
          clear hO hB hK HW4 HO4 HB1
          go_wp2_with fail
          go_roundg (l.length - (k + 1))
          case measure => have := HM.out; omega
          case rel => exact ⟨k + 1, by go_num, by omega, ⟨by omega⟩, true, rfl, ⟨HBD2.out⟩, _, _, _, _, ⟨HW5.out⟩, ⟨fun h => by cases h⟩, ⟨HO5.out⟩, ⟨HD3.out⟩, ⟨HB5.out⟩⟩
        | false =>
          go_wp2_with (first | ((with_reducible refine gate_builtin (b := .append) (xs := #[.tmp 38, .tmp 39]) rfl ?_); at_builtin; (refine Kd.R_append_rows (Kd.int .u8) (w0 := w0) w0.heap.size rfl (.tmp 38) (.tmp 39) 28 5 (.int .u8 0) 1 rfl Try.underlying28 infoB rfl (by decide) (by decide) u4 (allB (l.take k)) F Af _ cf (fun k => (okO k ∧ k < wr.heap.size) ∨ w3.heap.size ≤ k) (fun _ => False) rfl rfl ?aO ?aC (fun _ _ hp => hp) (fun _ hk => hk.elim) ?aF ?aB ?aS ?aL ?_; (case aB => exact (by repeat (first | (with_reducible first | exact HB3.out | apply below_alloc | apply pw_below_drewN | apply below_drew1) | exact HB3.out))); (case aF => exact (fun k hk => .inr hk)); (case aO => first | exact HO3.out | exact (by (with_reducible repeat (first | apply Kd.R_alloc | apply Kd.R_drewN | apply Kd.R_drew)); exact HO3.out)); (case aC => exact HF3.out); (case aS => exact (below_size (by repeat (first | (with_reducible first | exact HB3.out | apply below_alloc | apply pw_below_drewN | apply below_drew1) | exact HB3.out)))); (case aL => exact (by have := HLT.out; omega)); intro v1 w1 hO1 hB1 hG1 hA1; have HO1 := Lib.hid hO1; have HB1 := Lib.hid hB1; have HG1 := Lib.hid hG1; clear hO1 hB1 hG1 hA1)))
          have HK1 := Lib.hid (Kept.of_grown HG1.out (Kept.refl w3 (fun k => (okO k ∧ k < wr.heap.size) ∨ w3.heap.size ≤ k)) (fun k hk => .inl (HO3.out.1 k hk)))
          have HW4 : Hid (WrAt w1 w0.heap.size w0.heap.size (fun k => (okW k ∨ wr.heap.size ≤ k) ∧ k < w2.heap.size) vw2 2 (wrO (stE true) out x)) := Lib.hid (HW3.out.kept HK1.out HD3.out)
          have HO4 := Lib.hid (show (Kd.int .u8).R 5 w1 w0.heap.size (fun k => (okO k ∧ k < wr.heap.size) ∨ w3.heap.size ≤ k) v1 (allB (l.take (k + 1))) by rw [HTA.out]; exact HO1.out)
          clear HO1 HG1 HK1 HW3 HO3 HF3 HB3
          refine (end_calls w0 w1 _ _ _ _ _ HB1.out HW4.out).mono ?_
          rintro r w5 ⟨vg, rfl, hO, hB, hK⟩
          rw [if_neg (by decide)] at hO
          obtain ⟨Ag, cg, rfl⟩ := Kd.R_slice hO
          have HB5 := Lib.hid hB
          have HW5 := Lib.hid (HW4.out.kept hK (fun _ _ => id))
          have HO5 := Lib.hid (Kd.R_kept HO4.out hK (fun _ _ => id))
          clear hO hB hK HW4 HO4 HB1
          go_wp2_with fail
          go_roundg (l.length - (k + 1))
          case measure => have := HM.out; omega
          case rel => exact ⟨k + 1, by go_num, by omega, ⟨by omega⟩, true, rfl, ⟨HBD2.out⟩, _, _, _, _, ⟨HW5.out⟩, ⟨fun h => by cases h⟩, ⟨HO5.out⟩, ⟨HD3.out⟩, ⟨HB5.out⟩⟩
      | false =>
        cases bx with
        | true =>
          go_wp2_with (first | ((with_reducible refine gate_builtin (b := .append) (xs := #[.tmp 38, .tmp 39]) rfl ?_); at_builtin; (refine Kd.R_append_rows (Kd.int .u8) (w0 := w0) w0.heap.size rfl (.tmp 38) (.tmp 39) 28 5 (.int .u8 0) 1 rfl Try.underlying28 infoB rfl (by decide) (by decide) u4 (allB (l.take k)) F Af _ cf (fun k => (okO k ∧ k < wr.heap.size) ∨ w3.heap.size ≤ k) (fun _ => False) rfl rfl ?aO ?aC (fun _ _ hp => hp) (fun _ hk => hk.elim) ?aF ?aB ?aS ?aL ?_; (case aB => exact (by repeat (first | (with_reducible first | exact HB3.out | apply below_alloc | apply pw_below_drewN | apply below_drew1) | exact HB3.out))); (case aF => exact (fun k hk => .inr hk)); (case aO => first | exact HO3.out | exact (by (with_reducible repeat (first | apply Kd.R_alloc | apply Kd.R_drewN | apply Kd.R_drew)); exact HO3.out)); (case aC => exact HF3.out); (case aS => exact (below_size (by repeat (first | (with_reducible first | exact HB3.out | apply below_alloc | apply pw_below_drewN | apply below_drew1) | exact HB3.out)))); (case aL => exact (by have := HLT.out; omega)); intro v1 w1 hO1 hB1 hG1 hA1; have HO1 := Lib.hid hO1; have HB1 := Lib.hid hB1; have HG1 := Lib.hid hG1; clear hO1 hB1 hG1 hA1)))
          have HK1 := Lib.hid (Kept.of_grown HG1.out (Kept.refl w3 (fun k => (okO k ∧ k < wr.heap.size) ∨ w3.heap.size ≤ k)) (fun k hk => .inl (HO3.out.1 k hk)))
          have HW4 : Hid (WrAt w1 w0.heap.size w0.heap.size (fun k => (okW k ∨ wr.heap.size ≤ k) ∧ k < w2.heap.size) vw2 2 (wrO (stE false) out x)) := Lib.hid (HW3.out.kept HK1.out HD3.out)
          have HO4 := Lib.hid (show (Kd.int .u8).R 5 w1 w0.heap.size (fun k => (okO k ∧ k < wr.heap.size) ∨ w3.heap.size ≤ k) v1 (allB (l.take (k + 1))) by rw [HTA.out]; exact HO1.out)
          clear HO1 HG1 HK1 HW3 HO3 HF3 HB3
          refine (end_calls w0 w1 _ _ _ _ _ HB1.out HW4.out).mono ?_
          rintro r w5 ⟨vg, rfl, hO, hB, hK⟩
          rw [if_neg (by decide)] at hO
          obtain ⟨Ag, cg, rfl⟩ := Kd.R_slice hO
          have HB5 := Lib.hid hB
          have HW5 := Lib.hid (HW4.out.kept hK (fun _ _ => id))
          have HO5 := Lib.hid (Kd.R_kept HO4.out hK (fun _ _ => id))
          clear hO hB hK HW4 HO4 HB1
          go_wp2_with fail
          go_roundg (l.length - (k + 1))
          case measure => have := HM.out; omega
          case rel => exact ⟨k + 1, by go_num, by omega, ⟨by omega⟩, true, rfl, ⟨HBD2.out⟩, _, _, _, _, ⟨HW5.out⟩, ⟨fun h => by cases h⟩, ⟨HO5.out⟩, ⟨HD3.out⟩, ⟨HB5.out⟩⟩
        | false =>
          go_wp2_with (first | ((with_reducible refine gate_builtin (b := .append) (xs := #[.tmp 38, .tmp 39]) rfl ?_); at_builtin; (refine Kd.R_append_rows (Kd.int .u8) (w0 := w0) w0.heap.size rfl (.tmp 38) (.tmp 39) 28 5 (.int .u8 0) 1 rfl Try.underlying28 infoB rfl (by decide) (by decide) u4 (allB (l.take k)) F Af _ cf (fun k => (okO k ∧ k < wr.heap.size) ∨ w3.heap.size ≤ k) (fun _ => False) rfl rfl ?aO ?aC (fun _ _ hp => hp) (fun _ hk => hk.elim) ?aF ?aB ?aS ?aL ?_; (case aB => exact (by repeat (first | (with_reducible first | exact HB3.out | apply below_alloc | apply pw_below_drewN | apply below_drew1) | exact HB3.out))); (case aF => exact (fun k hk => .inr hk)); (case aO => first | exact HO3.out | exact (by (with_reducible repeat (first | apply Kd.R_alloc | apply Kd.R_drewN | apply Kd.R_drew)); exact HO3.out)); (case aC => exact HF3.out); (case aS => exact (below_size (by repeat (first | (with_reducible first | exact HB3.out | apply below_alloc | apply pw_below_drewN | apply below_drew1) | exact HB3.out)))); (case aL => exact (by have := HLT.out; omega)); intro v1 w1 hO1 hB1 hG1 hA1; have HO1 := Lib.hid hO1; have HB1 := Lib.hid hB1; have HG1 := Lib.hid hG1; clear hO1 hB1 hG1 hA1)))
          have HK1 := Lib.hid (Kept.of_grown HG1.out (Kept.refl w3 (fun k => (okO k ∧ k < wr.heap.size) ∨ w3.heap.size ≤ k)) (fun k hk => .inl (HO3.out.1 k hk)))
          have HW4 : Hid (WrAt w1 w0.heap.size w0.heap.size (fun k => (okW k ∨ wr.heap.size ≤ k) ∧ k < w2.heap.size) vw2 0 (wrO (stE false) out x)) := Lib.hid (HW3.out.kept HK1.out HD3.out)
          have HO4 := Lib.hid (show (Kd.int .u8).R 5 w1 w0.heap.size (fun k => (okO k ∧ k < wr.heap.size) ∨ w3.heap.size ≤ k) v1 (allB (l.take (k + 1))) by rw [HTA.out]; exact HO1.out)
          clear HO1 HG1 HK1 HW3 HO3 HF3 HB3
          refine (end_calls w0 w1 _ _ _ _ _ HB1.out HW4.out).mono ?_
          rintro r w5 ⟨vg, rfl, hO, hB, hK⟩
          have he : wrO (stE false) out x = allB (l.take (k + 1)) := by rw [HTA.out]; exact HE2.out rfl
          rw [if_pos rfl, he] at hO
          generalize hZ : allB (l.take (k + 1)) = Z at hO he HO4
          have HZE := Lib.hid hZ
          have HHE := Lib.hid he
          obtain ⟨Ag, cg, rfl⟩ := Kd.R_slice hO
          have HB5 := Lib.hid hB
          have HW5 := Lib.hid (HW4.out.kept hK (fun _ _ => id))
          have HO5 := Lib.hid (Kd.R_kept HO4.out hK (fun _ _ => id))
          obtain ⟨Aw, cw, rfl⟩ := Kd.R_slice HO5.out
          have hc1 : StrOf (.slice Ag Z.length cg) Z w5 := StrOf.of_R hO
          have hc2 : StrOf (.slice Aw Z.length cw) Z w5 := StrOf.of_R HO5.out
          unfold StrOf at hc1 hc2
          clear hO hB hK HW4 HO4 HB1 hZ he
          go_wp2_with fail
          go_roundg (l.length - (k + 1))
          case measure => have := HM.out; omega
          case rel => exact ⟨k + 1, by go_num, by omega, ⟨by omega⟩, false, rfl, ⟨HBD2.out⟩, _, _, _, _, ⟨HW5.out⟩, ⟨fun _ => by rw [HZE.out]; exact HHE.out⟩, ⟨by rw [HZE.out]; exact HO5.out⟩, ⟨HD3.out⟩, ⟨HB5.out⟩⟩
    · have c1 : decide ((k : Int) < (l.length : Int)) = false := decide_eq_false (by omega)
      go_wp2_with (first | (go_at_call 10; refine (known_calls _).mono ?_; rintro r w2 ⟨rfl, hb⟩; have HBx := Lib.hid (Below.trans' HB.out hb); clear hb))
      go_ret
      exact ⟨rfl, HBx.out⟩
theorem writes_law (A : Option Addr) (c : Nat) (l : List Val) (w : World) (hC : Kd.C kVal w A l.length l) (hV : ∀ x ∈ l, ValOk x) : Calls Try.prog 3 #[.slice A l.length c] w (fun r w' => r = .returned (.bool true) ∧ Below w.heap.size w w') := writes_walk w l A c hC hV
end Go.Proofs.Ytpbmfdflmmeghaa.Wire
