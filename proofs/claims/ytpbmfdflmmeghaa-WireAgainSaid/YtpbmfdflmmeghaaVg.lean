import Derived.Test.YtpbmfdflmmeghaaVf
namespace Go.Proofs.Ytpbmfdflmmeghaa.Wire
open Go.RowKit Go.Proofs.YtpbmfdflmmeghaaW.PrintWords Go.Proofs.YtpbmfdflmmeghaaW.PrintLast Go.Proofs.YtpbmfdflmmeghaaW.PrintMore
set_option linter.unusedVariables false
set_option linter.unusedSimpArgs false
set_option linter.unusedSectionVars false

section
variable (x : Val) (hV : ValOk x) (hS : Small x) (hb : badV x = false) (pre rest : List Int)
include hV hS hb
theorem rdF0 (hk : x.f0 % 6 = 0) : uintF (pre ++ (formB x ++ rest)) pre.length = .ok (x.f1, pre.length + (formB x).length) := by
  have hn : ¬ x.f1 < 0 := by simpa [badV, hk] using hb
  have e : formB x = grp x.f1.toNat := by simp [formB, hk]
  have h := uintF_grp x.f1.toNat (by have := hV.n1; omega) pre rest
  rw [e, h, Int.toNat_of_nonneg (by omega)]
theorem rdF1 (hk : x.f0 % 6 = 1) : intF (pre ++ (formB x ++ rest)) pre.length = .ok (x.f1, pre.length + (formB x).length) := by
  have e : formB x = grp (zig x.f1) := by simp [formB, hk]
  rw [e]; exact intF_grp x.f1 hV.n0 hV.n1 pre rest
theorem rdF2 (hk : x.f0 % 6 = 2) : boolF (pre ++ (formB x ++ rest)) pre.length = .ok (x.f1 != 0, pre.length + (formB x).length) := by
  have e : formB x = boolB (x.f1 != 0) := by simp [formB, hk]
  rw [e]; exact boolF_at _ pre rest
theorem rdF3 (hk : x.f0 % 6 = 3 ∨ x.f0 % 6 = 4) : bytesF 200 (pre ++ (formB x ++ rest)) pre.length = .ok (x.f2, pre.length + (formB x).length) := by
  have e : formB x = grp x.f2.length ++ x.f2 := by rcases hk with hk | hk <;> simp [formB, hk]
  rw [e]; exact bytesF_grp x.f2 200 (by have := hS.1; omega) (by have := hS.1; omega) pre rest
theorem rdF5 (hk : x.f0 % 6 = 5) : intsF 50 (pre ++ (formB x ++ rest)) pre.length = .ok (x.f3, pre.length + (formB x).length) := by
  have e : formB x = grp x.f3.length ++ zigs x.f3 := by simp [formB, hk]
  rw [e]; exact intsF_grp x.f3 hV.li 50 (by have := hS.2; omega) (by have := hS.2; omega) pre rest
end
theorem formB_byte (x : Val) (hV : ValOk x) : ∀ b ∈ formB x, 0 ≤ b ∧ b < 256 := by
  intro b hb
  unfold formB at hb
  split at hb
  · exact grp_byte _ _ hb
  split at hb
  · exact grp_byte _ _ hb
  split at hb
  · unfold boolB at hb; simp at hb; subst hb; split <;> omega
  split at hb
  · rcases List.mem_append.1 hb with h | h
    · exact grp_byte _ _ h
    · exact hV.tx _ h
  split at hb
  · rcases List.mem_append.1 hb with h | h
    · exact grp_byte _ _ h
    · exact hV.tx _ h
  · rcases List.mem_append.1 hb with h | h
    · exact grp_byte _ _ h
    · exact zigs_byte _ _ h
theorem allB_byte (l : List Val) (hV : ∀ x ∈ l, ValOk x) : ∀ b ∈ allB l, 0 ≤ b ∧ b < 256 := by
  induction l with
  | nil => simp [allB]
  | cons a l ih =>
    intro b hb
    simp only [allB] at hb
    rcases List.mem_append.1 hb with h | h
    · split at h
      · cases h
      · exact formB_byte a (hV a (by simp)) b h
    · exact ih (fun x hx => hV x (List.mem_cons_of_mem _ hx)) b h
theorem take_mem_or {l : List Val} {k : Nat} (h : k < l.length) {y : Val} (hy : y ∈ l.take (k + 1)) : y ∈ l.take k ∨ y = l.getD k zVal := by
  rw [List.take_add_one] at hy
  rcases List.mem_append.1 hy with h2 | h2
  · exact .inl h2
  · right
    rw [List.getElem?_eq_getElem h] at h2
    simp at h2
    simp [List.getD, h2, h]

set_option maxRecDepth 100000 in
set_option maxHeartbeats 8000000 in
theorem again_walk (w0 : World) (l : List Val) (A : Option Addr) (c : Nat) (hC : Kd.C kVal w0 A l.length l) (hV : ∀ x ∈ l, ValOk x) :
    Calls Try.prog 7 #[.slice A l.length c] w0 (fun r w' => r = .returned (.bool true) ∧ Below w0.heap.size w0 w') := by
  have HC := Lib.hid hC
  have HV := Lib.hid hV
  have HG := Lib.hid (large_calls w0 l A c hC)
  clear hC hV
  go_enter Try.func7, Try.ntmps7
  go_wp2_with fail
  refine HG.out.mono ?_
  rintro r w1 ⟨⟨b, rfl, hb⟩, rfl⟩
  clear HG
  cases b with
  | true =>
    go_wp2_with (first | (go_at_call 10; refine (known_calls _).mono ?_; rintro r w2 ⟨rfl, hb⟩; have HB := Lib.hid hb; clear hb))
    go_ret
    exact ⟨rfl, HB.out⟩
  | false =>
  obtain ⟨hn, hS⟩ := hb rfl
  have HS := Lib.hid hS
  have HW0 := Lib.hid (WrAt.new (w0 := w0) (w := w0) (Nat.le_refl _))
  have HB0 := Lib.hid (below_alloc' (Below.refl w0.heap.size w0) (.cells #[.int .i64 0, .slice none 0 0] 30))
  clear hb hS
  go_wp2_with fail
  go_loopg [4] l.length (fun g v4 w' => ∃ k : Nat, v4 = .int .i64 k ∧ k ≤ l.length ∧ Aside0 (g + k = l.length) ∧ Aside0 (∀ x ∈ l.take k, badV x = false) ∧
    ∃ (okW : Nat → Prop) (vw : Value), Aside0 (WrAt w' w0.heap.size w0.heap.size okW vw 0 (allB (l.take k))) ∧ Aside0 (Below w0.heap.size w0 w'))
  case atStart => exact ⟨0, rfl, Nat.zero_le _, ⟨rfl⟩, ⟨by simp⟩, _, _, ⟨HW0.out⟩, ⟨HB0.out⟩⟩
  case round =>
    obtain ⟨k, rfl, hk, HM, HN, okW, vw, HW, HB⟩ := hrel
    by_cases h : k < l.length
    · have c1 : decide ((k : Int) < (l.length : Int)) = true := decide_eq_true (by omega)
      have HVx := Lib.hid (HV.out _ (getD_mem h))
      have HSx := Lib.hid (HS.out _ (getD_mem h))
      obtain ⟨ad, A2, c2, A3, c3, hA, e0, e1, e2, e3, g2, g3⟩ := at_Val (Kd.C_below HC.out HB.out) k h
      subst hA
      have HTA := Lib.hid (allB_take l k h)
      have HTM := Lib.hid (fun y hy => take_mem_or (y := y) h hy)
      have HLN := Lib.hid (allB_len (l.take k) (fun x hx => HV.out x (List.mem_of_mem_take hx)) (fun x hx => HS.out x (List.mem_of_mem_take hx)))
      have hlt : (l.take k).length ≤ 19 := by rw [List.length_take]; omega
      generalize l.getD k zVal = x at e0 e1 e2 e3 g2 g3 HVx HSx HTA HTM
      obtain ⟨k1, k2, _⟩ := kinds HVx.out.k0 HVx.out.k1
      have HG2 := Lib.hid g2; have HG3 := Lib.hid g3
      clear g2 g3
      by_cases hbx : badV x = true
      · have hb1 : x.f0 % 6 = 0 ∧ x.f1 < 0 := by simpa [badV] using hbx
        have d2 : decide (x.f1 < 0) = true := decide_eq_true hb1.2
        have k3 : x.f0 % 6 = 0 := hb1.1
        rw [k3] at k1 k2
        clear hb1 hbx
        go_wp2_with (first | (go_at_call 10; refine (known_calls _).mono ?_; rintro r w2 ⟨rfl, hb⟩; have HBx := Lib.hid (Below.trans' HB.out hb); clear hb))
        go_ret
        exact ⟨rfl, HBx.out⟩
      have hbf : badV x = false := by simpa using hbx
      have HST := wr_step false (allB (l.take k)) x (fun hb => by have := HLN.out; omega) HVx.out HSx.out
      rw [hbf] at HST
      have HTE : Hid (allB (l.take (k + 1)) = allB (l.take k) ++ formB x) := Lib.hid (by rw [HTA.out, hbf]; simp)
      have HS1 := Lib.hid (show wrE 0 (allB (l.take k)) x = 0 from HST.1)
      have HS2 := Lib.hid (show wrO 0 (allB (l.take k)) x = allB (l.take (k + 1)) by rw [HTE.out]; exact HST.2 rfl)
      have HBF := Lib.hid hbf
      have hor : (x.f0 % 6 = 0 ∧ ¬ x.f1 < 0) ∨ ¬ x.f0 % 6 = 0 := by
        by_cases h0 : x.f0 % 6 = 0
        · left; refine ⟨h0, ?_⟩; simpa [badV, h0] using hbf
        · exact .inr h0
      clear HST hbf hbx
      rcases hor with ⟨h0, hn0⟩ | h0
      · have d2 : decide (x.f1 < 0) = false := decide_eq_false hn0
        rw [h0] at k1 k2
        clear h0 hn0
        go_wp2_with fail
        refine (write_calls w0 wr w0.heap.size okW vw _ _ x A2 A3 c2 c3 HB.out HW.out HVx.out HSx.out HG2.out HG3.out).mono ?_
        rintro r w2 ⟨rfl, vw2, hW, hB, hK⟩
        rw [HS1.out, HS2.out] at hW
        have HW2 := Lib.hid hW; have HB2 := Lib.hid hB
        clear hW hB hK
        go_wp2_with fail
        go_roundg (l.length - (k + 1))
        case measure => have := HM.out; omega
        case rel => exact ⟨k + 1, by go_num, by omega, ⟨by omega⟩, ⟨fun y hy => (HTM.out y hy).elim (HN.out y) (fun h => by rw [h]; exact HBF.out)⟩, _, _, ⟨HW2.out⟩, ⟨HB2.out⟩⟩
      · have d3 : (x.f0 % 6 == 0) = false := by rw [beq_eq_false_iff_ne]; exact h0
        clear h0
        go_wp2_with fail
        refine (write_calls w0 wr w0.heap.size okW vw _ _ x A2 A3 c2 c3 HB.out HW.out HVx.out HSx.out HG2.out HG3.out).mono ?_
        rintro r w2 ⟨rfl, vw2, hW, hB, hK⟩
        rw [HS1.out, HS2.out] at hW
        have HW2 := Lib.hid hW; have HB2 := Lib.hid hB
        clear hW hB hK
        go_wp2_with fail
        go_roundg (l.length - (k + 1))
        case measure => have := HM.out; omega
        case rel => exact ⟨k + 1, by go_num, by omega, ⟨by omega⟩, ⟨fun y hy => (HTM.out y hy).elim (HN.out y) (fun h => by rw [h]; exact HBF.out)⟩, _, _, ⟨HW2.out⟩, ⟨HB2.out⟩⟩
    · have c1 : decide ((k : Int) < (l.length : Int)) = false := decide_eq_false (by omega)
      have hkl : l.take k = l := List.take_of_length_le (by omega)
      have hn1 := HN.out
      have hw1 := HW.out
      rw [hkl] at hn1 hw1
      have HNB := Lib.hid hn1
      have HW1 := Lib.hid hw1
      have HLN := Lib.hid (allB_len l HV.out HS.out)
      have HBY := Lib.hid (allB_byte l HV.out)
      clear hkl hn1 hw1 HN HW HM hk
      go_wp2_with fail
      refine (end_calls w0 wr _ _ _ _ _ HB.out HW1.out).mono ?_
      rintro r w2 ⟨vb, rfl, hO, hB, hK⟩
      rw [if_pos rfl] at hO
      obtain ⟨Z, hZ⟩ : ∃ Z, allB l = Z := ⟨_, rfl⟩
      rw [hZ] at hO HLN HBY
      have HZ := Lib.hid hZ
      obtain ⟨Ab, cb, rfl⟩ := Kd.R_slice hO
      have HO2 := Lib.hid hO; have HB2 := Lib.hid hB
      clear hO hB hK HW1 HB hZ
      have hzl : Z.length ≤ 20000 := by have := HLN.out; omega
      go_wp2_with fail
      refine (read_calls w0 w2 Z Ab cb HB2.out ((Kd.R_reads' HO2.out).2.2) (by omega) HBY.out).mono ?_
      rintro r w3 ⟨r1, q1, rfl, hge1, hlt1, hR1', hB3, hK3⟩
      obtain ⟨ok1, hR1, hok1⟩ : ∃ ok1 : Nat → Prop, RdAt w3 w0.heap.size r1 ok1 q1 0 0 Z ∧ ∀ k, ok1 k → k < r1 := ⟨_, hR1', fun _ h => h.2⟩
      have HR3 := Lib.hid hR1; have HB3 := Lib.hid hB3; have HOK := Lib.hid hok1
      clear hR1' hR1 hB3 hok1 hK3 HO2 HB2
      go_wp2_with fail
      go_loopg [8] l.length (fun g v8 w' => ∃ k : Nat, v8 = .int .i64 k ∧ k ≤ l.length ∧ Aside0 (g + k = l.length) ∧ Aside0 (RdAt w' w0.heap.size r1 ok1 q1 0 (allB (l.take k)).length Z) ∧ Aside0 (Below w0.heap.size w0 w') ∧ Aside0 (r1 < w'.heap.size))
      case atStart => exact ⟨0, rfl, Nat.zero_le _, ⟨rfl⟩, ⟨HR3.out⟩, ⟨HB3.out⟩, ⟨hlt1⟩⟩
      case round =>
        obtain ⟨k, rfl, hk, HM, HR, HB, HLT⟩ := hrel
        by_cases h : k < l.length
        · have c1 : decide ((k : Int) < (l.length : Int)) = true := decide_eq_true (by omega)
          have HVx := Lib.hid (HV.out _ (getD_mem h))
          have HSx := Lib.hid (HS.out _ (getD_mem h))
          have HBx := Lib.hid (HNB.out _ (getD_mem h))
          obtain ⟨rest, hz1, hz2⟩ := allB_split l HNB.out k h
          rw [HZ.out] at hz1
          obtain ⟨ad, A2, c2, A3, c3, hA, d0, d1, d2, d3, g2, g3⟩ := at_Val HC.out k h
          subst hA
          have e0 := pw_cell_below HB.out d0
          have e1 := pw_cell_below HB.out d1
          have e2 := pw_cell_below HB.out d2
          have e3 := pw_cell_below HB.out d3
          clear d0 d1 d2 d3
          generalize l.getD k zVal = x at e0 e1 e2 e3 g2 g3 HVx HSx HBx hz1 hz2
          have HG2 := Lib.hid g2; have HG3 := Lib.hid g3
          have HZ1 := Lib.hid hz1
          have HZ2 := Lib.hid (show (allB (l.take k)).length + (formB x).length = (allB (l.take (k + 1))).length by rw [hz2, List.length_append])
          obtain ⟨k1, k2, kc⟩ := kinds HVx.out.k0 HVx.out.k1
          clear g2 g3 hz1 hz2
          rcases kc with h0 | h0 | h0 | h0 | h0 | h0
          · rw [h0] at k1 k2
            have HF := Lib.hid (rdF0 x HVx.out HSx.out HBx.out (allB (l.take k)) rest h0)
            rw [← HZ1.out, HZ2.out] at HF
            go_wp2_with fail
            obtain ⟨wv, hwv⟩ : ∃ W, wr.alloc (.cells #[.int .u8 x.f0, .int .i64 x.f1, .slice A2 x.f2.length c2, .slice A3 x.f3.length c3] 35) = W := ⟨_, rfl⟩
            rw [hwv]
            have HBv := Lib.hid (show Below w0.heap.size w0 wv by rw [← hwv]; exact below_alloc' HB.out _)
            have HRv := Lib.hid (show RdAt wv w0.heap.size r1 ok1 q1 0 (allB (l.take k)).length Z by rw [← hwv]; exact HR.out.kept ((Kept.refl wr (fun _ => False)).alloc _) id (fun _ _ => id))
            have HX := Lib.hid (show ∀ W, Kept wv W (fun k => k = r1) → (W.cell? ⟨wr.heap.size, 1, none⟩ = some (.int .i64 x.f1) ∧ W.cell? ⟨wr.heap.size, 2, none⟩ = some (.slice A2 x.f2.length c2) ∧ W.cell? ⟨wr.heap.size, 3, none⟩ = some (.slice A3 x.f3.length c3)) from fun W hk => by
              have hb : wv.heap[wr.heap.size]? = some (.cells #[.int .u8 x.f0, .int .i64 x.f1, .slice A2 x.f2.length c2, .slice A3 x.f3.length c3] 35 (0, 0)) := by rw [← hwv]; exact blk_new _ _
              have hb2 := blk_kept hb hk (by have := HLT.out; omega)
              exact ⟨(blk_cell hb2 1).trans rfl, (blk_cell hb2 2).trans rfl, (blk_cell hb2 3).trans rfl⟩)
            have HLV := Lib.hid (show r1 < wv.heap.size by rw [← hwv]; have := HLT.out; simp; omega)
            have HBO := Lib.hid (show ∀ W, Kept wv W (fun k => k = r1) → ∀ i, i < w0.heap.size → W.heap[i]? = w0.heap[i]? from fun W hk i hi => (hk.2 i (Nat.lt_of_lt_of_le hi HBv.out.size) (by have := HRv.out.hb; omega)).trans (HBv.out.block i hi))
            have HSZ := Lib.hid (show wv.heap.size = wr.heap.size + 1 by rw [← hwv]; simp)
            clear e0 e1 e2 e3 hwv HR HB
            refine wp_region_noPanic ?_
            refine wp_region_held_drew (S := fun W => Kept wv W (fun k => k = r1)) (by kernel_rfl) ((Kept.refl _ _).drew) (fun hS => ?_)
            have HD := Lib.hid (HRv.out.kept ((Kept.refl wv (fun _ => False)).drew) id (fun _ _ => id))
            have HBd := Lib.hid (Below.drew HBv.out)
            (refine wpAnyH_takeG (i := 0) (by kernel_rfl) (by kernel_rfl) (by kernel_rfl) (fun _ _ _ _ _ h => h) hS ?_; intro oi hoi; simp only [List.getElem?_toArray, List.getElem?_cons_succ, List.getElem?_cons_zero] at hoi; cases hoi; refine ⟨?_, by rfl, ?_, ?_⟩; rotate_left; (focus (intro wS hSw; skip; go_simp; (first | done | with_reducible rfl))); (try simp only [Act.put, List.setIfInBounds_toArray, List.set_cons_zero, List.set_cons_succ]))
            (refine wpAnyH_takeG (i := 2) (by kernel_rfl) (by kernel_rfl) (by kernel_rfl) (fun _ _ _ _ _ h => h) hS ?_; intro oi hoi; simp only [List.getElem?_toArray, List.getElem?_cons_succ, List.getElem?_cons_zero] at hoi; cases hoi; refine ⟨?_, by rfl, ?_, ?_⟩; rotate_left; (focus (intro wS hSw; skip; go_simp; (first | done | with_reducible rfl))); (try simp only [Act.put, List.setIfInBounds_toArray, List.set_cons_zero, List.set_cons_succ]))
            (refine wpAnyH_takeG (i := 3) (by kernel_rfl) (by kernel_rfl) (by kernel_rfl) (fun _ _ _ _ _ h => h) hS ?_; intro oi hoi; simp only [List.getElem?_toArray, List.getElem?_cons_succ, List.getElem?_cons_zero] at hoi; cases hoi; refine ⟨?_, by rfl, ?_, ?_⟩; rotate_left; (focus (intro wS hSw; obtain ⟨s1, s2, s3⟩ := HX.out wS hSw; go_simp; (first | done | with_reducible rfl))); (try simp only [Act.put, List.setIfInBounds_toArray, List.set_cons_zero, List.set_cons_succ]))
            have hu : Calls Try.prog 24 #[.pointer (some ⟨r1, 0, none⟩)] wv.drew (fun r w' => r = .returned (.int .i64 x.f1) ∧ RLeft w0 wv.drew r1 ok1 q1 0 (allB (l.take (k + 1))).length Z w') := by
              have h := rdUint_calls w0 wv.drew r1 ok1 q1 0 (allB (l.take k)).length Z HBd.out HD.out; rw [HF.out] at h; exact h
            (refine wpAnyH_oneG (i := 1) (by kernel_rfl) ?_; intro oi hoi K' hK; simp only [List.getElem?_toArray, List.getElem?_cons_succ, List.getElem?_cons_zero] at hoi; cases hoi; go_simp; (refine hu.mono ?_; clear hu; rintro r w5 ⟨rfl, hL⟩); go_wp2_with fail)
            have HR5 := Lib.hid hL.rd
            have HB5 := Lib.hid hL.below
            have HK5 := Lib.hid (((Kept.refl wv (fun k => k = r1)).drew).then_ hL.kept (fun _ h => .inl h))
            have HL5 := Lib.hid (show r1 < w5.heap.size by have := HLV.out; have := HK5.out.1; omega)
            clear hL
            (refine hK.out _ _ ?_ (fun hS => ?_); (focus (exact HK5.out)); clear hK K'; (try simp only [Act.put, List.setIfInBounds_toArray, List.set_cons_zero, List.set_cons_succ]))
            (refine wpAnyH_takeG (i := 4) (by kernel_rfl) (by kernel_rfl) (by kernel_rfl) (fun _ _ _ _ _ h => h) hS ?_; intro oi hoi; simp only [List.getElem?_toArray, List.getElem?_cons_succ, List.getElem?_cons_zero] at hoi; cases hoi; refine ⟨?_, by rfl, ?_, ?_⟩; rotate_left; (focus (intro wS hSw; skip; go_simp; (first | done | with_reducible rfl))); (try simp only [Act.put, List.setIfInBounds_toArray, List.set_cons_zero, List.set_cons_succ]))
            (refine wpAnyH_takeG (i := 5) (by kernel_rfl) (by kernel_rfl) (by kernel_rfl) (fun _ _ _ _ _ h => h) hS ?_; intro oi hoi; simp only [List.getElem?_toArray, List.getElem?_cons_succ, List.getElem?_cons_zero] at hoi; cases hoi; refine ⟨?_, by rfl, ?_, ?_⟩; rotate_left; (focus (intro wS hSw; skip; go_simp; (first | done | with_reducible rfl))); (try simp only [Act.put, List.setIfInBounds_toArray, List.set_cons_zero, List.set_cons_succ]))
            refine wpAnyH_done (by kernel_rfl) ?_ _
            refine NoPanic.normal ?_
            clear hS
            go_wp2_with fail
            go_roundg (l.length - (k + 1))
            case measure => have := HM.out; omega
            case rel => exact ⟨k + 1, by go_num, by omega, ⟨by omega⟩, ⟨HR5.out⟩, ⟨HB5.out⟩, ⟨HL5.out⟩⟩
          · rw [h0] at k1 k2
            have HF := Lib.hid (rdF1 x HVx.out HSx.out HBx.out (allB (l.take k)) rest h0)
            rw [← HZ1.out, HZ2.out] at HF
            go_wp2_with fail
            obtain ⟨wv, hwv⟩ : ∃ W, wr.alloc (.cells #[.int .u8 x.f0, .int .i64 x.f1, .slice A2 x.f2.length c2, .slice A3 x.f3.length c3] 35) = W := ⟨_, rfl⟩
            rw [hwv]
            have HBv := Lib.hid (show Below w0.heap.size w0 wv by rw [← hwv]; exact below_alloc' HB.out _)
            have HRv := Lib.hid (show RdAt wv w0.heap.size r1 ok1 q1 0 (allB (l.take k)).length Z by rw [← hwv]; exact HR.out.kept ((Kept.refl wr (fun _ => False)).alloc _) id (fun _ _ => id))
            have HX := Lib.hid (show ∀ W, Kept wv W (fun k => k = r1) → (W.cell? ⟨wr.heap.size, 1, none⟩ = some (.int .i64 x.f1) ∧ W.cell? ⟨wr.heap.size, 2, none⟩ = some (.slice A2 x.f2.length c2) ∧ W.cell? ⟨wr.heap.size, 3, none⟩ = some (.slice A3 x.f3.length c3)) from fun W hk => by
              have hb : wv.heap[wr.heap.size]? = some (.cells #[.int .u8 x.f0, .int .i64 x.f1, .slice A2 x.f2.length c2, .slice A3 x.f3.length c3] 35 (0, 0)) := by rw [← hwv]; exact blk_new _ _
              have hb2 := blk_kept hb hk (by have := HLT.out; omega)
              exact ⟨(blk_cell hb2 1).trans rfl, (blk_cell hb2 2).trans rfl, (blk_cell hb2 3).trans rfl⟩)
            have HLV := Lib.hid (show r1 < wv.heap.size by rw [← hwv]; have := HLT.out; simp; omega)
            have HBO := Lib.hid (show ∀ W, Kept wv W (fun k => k = r1) → ∀ i, i < w0.heap.size → W.heap[i]? = w0.heap[i]? from fun W hk i hi => (hk.2 i (Nat.lt_of_lt_of_le hi HBv.out.size) (by have := HRv.out.hb; omega)).trans (HBv.out.block i hi))
            have HSZ := Lib.hid (show wv.heap.size = wr.heap.size + 1 by rw [← hwv]; simp)
            clear e0 e1 e2 e3 hwv HR HB
            refine wp_region_noPanic ?_
            refine wp_region_held_drew (S := fun W => Kept wv W (fun k => k = r1)) (by kernel_rfl) ((Kept.refl _ _).drew) (fun hS => ?_)
            have HD := Lib.hid (HRv.out.kept ((Kept.refl wv (fun _ => False)).drew) id (fun _ _ => id))
            have HBd := Lib.hid (Below.drew HBv.out)
            (refine wpAnyH_takeG (i := 0) (by kernel_rfl) (by kernel_rfl) (by kernel_rfl) (fun _ _ _ _ _ h => h) hS ?_; intro oi hoi; simp only [List.getElem?_toArray, List.getElem?_cons_succ, List.getElem?_cons_zero] at hoi; cases hoi; refine ⟨?_, by rfl, ?_, ?_⟩; rotate_left; (focus (intro wS hSw; skip; go_simp; (first | done | with_reducible rfl))); (try simp only [Act.put, List.setIfInBounds_toArray, List.set_cons_zero, List.set_cons_succ]))
            (refine wpAnyH_takeG (i := 2) (by kernel_rfl) (by kernel_rfl) (by kernel_rfl) (fun _ _ _ _ _ h => h) hS ?_; intro oi hoi; simp only [List.getElem?_toArray, List.getElem?_cons_succ, List.getElem?_cons_zero] at hoi; cases hoi; refine ⟨?_, by rfl, ?_, ?_⟩; rotate_left; (focus (intro wS hSw; skip; go_simp; (first | done | with_reducible rfl))); (try simp only [Act.put, List.setIfInBounds_toArray, List.set_cons_zero, List.set_cons_succ]))
            (refine wpAnyH_takeG (i := 3) (by kernel_rfl) (by kernel_rfl) (by kernel_rfl) (fun _ _ _ _ _ h => h) hS ?_; intro oi hoi; simp only [List.getElem?_toArray, List.getElem?_cons_succ, List.getElem?_cons_zero] at hoi; cases hoi; refine ⟨?_, by rfl, ?_, ?_⟩; rotate_left; (focus (intro wS hSw; obtain ⟨s1, s2, s3⟩ := HX.out wS hSw; go_simp; (first | done | with_reducible rfl))); (try simp only [Act.put, List.setIfInBounds_toArray, List.set_cons_zero, List.set_cons_succ]))
            have hu : Calls Try.prog 22 #[.pointer (some ⟨r1, 0, none⟩)] wv.drew (fun r w' => r = .returned (.int .i64 x.f1) ∧ RLeft w0 wv.drew r1 ok1 q1 0 (allB (l.take (k + 1))).length Z w') := by
              have h := rdInt_calls w0 wv.drew r1 ok1 q1 0 (allB (l.take k)).length Z HBd.out HD.out; rw [HF.out] at h; exact h
            (refine wpAnyH_oneG (i := 1) (by kernel_rfl) ?_; intro oi hoi K' hK; simp only [List.getElem?_toArray, List.getElem?_cons_succ, List.getElem?_cons_zero] at hoi; cases hoi; go_simp; (refine hu.mono ?_; clear hu; rintro r w5 ⟨rfl, hL⟩); go_wp2_with fail)
            have HR5 := Lib.hid hL.rd
            have HB5 := Lib.hid hL.below
            have HK5 := Lib.hid (((Kept.refl wv (fun k => k = r1)).drew).then_ hL.kept (fun _ h => .inl h))
            have HL5 := Lib.hid (show r1 < w5.heap.size by have := HLV.out; have := HK5.out.1; omega)
            clear hL
            (refine hK.out _ _ ?_ (fun hS => ?_); (focus (exact HK5.out)); clear hK K'; (try simp only [Act.put, List.setIfInBounds_toArray, List.set_cons_zero, List.set_cons_succ]))
            (refine wpAnyH_takeG (i := 4) (by kernel_rfl) (by kernel_rfl) (by kernel_rfl) (fun _ _ _ _ _ h => h) hS ?_; intro oi hoi; simp only [List.getElem?_toArray, List.getElem?_cons_succ, List.getElem?_cons_zero] at hoi; cases hoi; refine ⟨?_, by rfl, ?_, ?_⟩; rotate_left; (focus (intro wS hSw; skip; go_simp; (first | done | with_reducible rfl))); (try simp only [Act.put, List.setIfInBounds_toArray, List.set_cons_zero, List.set_cons_succ]))
            (refine wpAnyH_takeG (i := 5) (by kernel_rfl) (by kernel_rfl) (by kernel_rfl) (fun _ _ _ _ _ h => h) hS ?_; intro oi hoi; simp only [List.getElem?_toArray, List.getElem?_cons_succ, List.getElem?_cons_zero] at hoi; cases hoi; refine ⟨?_, by rfl, ?_, ?_⟩; rotate_left; (focus (intro wS hSw; skip; go_simp; (first | done | with_reducible rfl))); (try simp only [Act.put, List.setIfInBounds_toArray, List.set_cons_zero, List.set_cons_succ]))
            refine wpAnyH_done (by kernel_rfl) ?_ _
            refine NoPanic.normal ?_
            clear hS
            go_wp2_with fail
            go_roundg (l.length - (k + 1))
            case measure => have := HM.out; omega
            case rel => exact ⟨k + 1, by go_num, by omega, ⟨by omega⟩, ⟨HR5.out⟩, ⟨HB5.out⟩, ⟨HL5.out⟩⟩
          · rw [h0] at k1 k2
            have HF := Lib.hid (rdF2 x HVx.out HSx.out HBx.out (allB (l.take k)) rest h0)
            rw [← HZ1.out, HZ2.out] at HF
            go_wp2_with fail
            obtain ⟨wv, hwv⟩ : ∃ W, wr.alloc (.cells #[.int .u8 x.f0, .int .i64 x.f1, .slice A2 x.f2.length c2, .slice A3 x.f3.length c3] 35) = W := ⟨_, rfl⟩
            rw [hwv]
            have HBv := Lib.hid (show Below w0.heap.size w0 wv by rw [← hwv]; exact below_alloc' HB.out _)
            have HRv := Lib.hid (show RdAt wv w0.heap.size r1 ok1 q1 0 (allB (l.take k)).length Z by rw [← hwv]; exact HR.out.kept ((Kept.refl wr (fun _ => False)).alloc _) id (fun _ _ => id))
            have HX := Lib.hid (show ∀ W, Kept wv W (fun k => k = r1) → (W.cell? ⟨wr.heap.size, 1, none⟩ = some (.int .i64 x.f1) ∧ W.cell? ⟨wr.heap.size, 2, none⟩ = some (.slice A2 x.f2.length c2) ∧ W.cell? ⟨wr.heap.size, 3, none⟩ = some (.slice A3 x.f3.length c3)) from fun W hk => by
              have hb : wv.heap[wr.heap.size]? = some (.cells #[.int .u8 x.f0, .int .i64 x.f1, .slice A2 x.f2.length c2, .slice A3 x.f3.length c3] 35 (0, 0)) := by rw [← hwv]; exact blk_new _ _
              have hb2 := blk_kept hb hk (by have := HLT.out; omega)
              exact ⟨(blk_cell hb2 1).trans rfl, (blk_cell hb2 2).trans rfl, (blk_cell hb2 3).trans rfl⟩)
            have HLV := Lib.hid (show r1 < wv.heap.size by rw [← hwv]; have := HLT.out; simp; omega)
            have HBO := Lib.hid (show ∀ W, Kept wv W (fun k => k = r1) → ∀ i, i < w0.heap.size → W.heap[i]? = w0.heap[i]? from fun W hk i hi => (hk.2 i (Nat.lt_of_lt_of_le hi HBv.out.size) (by have := HRv.out.hb; omega)).trans (HBv.out.block i hi))
            have HSZ := Lib.hid (show wv.heap.size = wr.heap.size + 1 by rw [← hwv]; simp)
            clear e0 e1 e2 e3 hwv HR HB
            refine wp_region_noPanic ?_
            refine wp_region_held_drew (S := fun W => Kept wv W (fun k => k = r1)) (by kernel_rfl) ((Kept.refl _ _).drew) (fun hS => ?_)
            have HD := Lib.hid (HRv.out.kept ((Kept.refl wv (fun _ => False)).drew) id (fun _ _ => id))
            have HBd := Lib.hid (Below.drew HBv.out)
            (refine wpAnyH_takeG (i := 0) (by kernel_rfl) (by kernel_rfl) (by kernel_rfl) (fun _ _ _ _ _ h => h) hS ?_; intro oi hoi; simp only [List.getElem?_toArray, List.getElem?_cons_succ, List.getElem?_cons_zero] at hoi; cases hoi; refine ⟨?_, by rfl, ?_, ?_⟩; rotate_left; (focus (intro wS hSw; skip; go_simp; (first | done | with_reducible rfl))); (try simp only [Act.put, List.setIfInBounds_toArray, List.set_cons_zero, List.set_cons_succ]))
            (refine wpAnyH_takeG (i := 2) (by kernel_rfl) (by kernel_rfl) (by kernel_rfl) (fun _ _ _ _ _ h => h) hS ?_; intro oi hoi; simp only [List.getElem?_toArray, List.getElem?_cons_succ, List.getElem?_cons_zero] at hoi; cases hoi; refine ⟨?_, by rfl, ?_, ?_⟩; rotate_left; (focus (intro wS hSw; skip; go_simp; (first | done | with_reducible rfl))); (try simp only [Act.put, List.setIfInBounds_toArray, List.set_cons_zero, List.set_cons_succ]))
            (refine wpAnyH_takeG (i := 3) (by kernel_rfl) (by kernel_rfl) (by kernel_rfl) (fun _ _ _ _ _ h => h) hS ?_; intro oi hoi; simp only [List.getElem?_toArray, List.getElem?_cons_succ, List.getElem?_cons_zero] at hoi; cases hoi; refine ⟨?_, by rfl, ?_, ?_⟩; rotate_left; (focus (intro wS hSw; obtain ⟨s1, s2, s3⟩ := HX.out wS hSw; go_simp; (first | done | with_reducible rfl))); (try simp only [Act.put, List.setIfInBounds_toArray, List.set_cons_zero, List.set_cons_succ]))
            (refine wpAnyH_takeG (i := 4) (by kernel_rfl) (by kernel_rfl) (by kernel_rfl) (fun _ _ _ _ _ h => h) hS ?_; intro oi hoi; simp only [List.getElem?_toArray, List.getElem?_cons_succ, List.getElem?_cons_zero] at hoi; cases hoi; refine ⟨?_, by rfl, ?_, ?_⟩; rotate_left; (focus (intro wS hSw; skip; go_simp; (first | done | with_reducible rfl))); (try simp only [Act.put, List.setIfInBounds_toArray, List.set_cons_zero, List.set_cons_succ]))
            have hu : Calls Try.prog 27 #[.pointer (some ⟨r1, 0, none⟩)] wv.drew (fun r w' => r = .returned (.bool (x.f1 != 0)) ∧ RLeft w0 wv.drew r1 ok1 q1 0 (allB (l.take (k + 1))).length Z w') := by
              have h := rdBool_calls w0 wv.drew r1 ok1 q1 0 (allB (l.take k)).length Z HBd.out HD.out; rw [HF.out] at h; exact h
            (refine wpAnyH_oneG (i := 1) (by kernel_rfl) ?_; intro oi hoi K' hK; simp only [List.getElem?_toArray, List.getElem?_cons_succ, List.getElem?_cons_zero] at hoi; cases hoi; go_simp; (refine hu.mono ?_; clear hu; rintro r w5 ⟨rfl, hL⟩); go_wp2_with fail)
            have HR5 := Lib.hid hL.rd
            have HB5 := Lib.hid hL.below
            have HK5 := Lib.hid (((Kept.refl wv (fun k => k = r1)).drew).then_ hL.kept (fun _ h => .inl h))
            have HL5 := Lib.hid (show r1 < w5.heap.size by have := HLV.out; have := HK5.out.1; omega)
            clear hL
            (refine hK.out _ _ ?_ (fun hS => ?_); (focus (exact HK5.out)); clear hK K'; (try simp only [Act.put, List.setIfInBounds_toArray, List.set_cons_zero, List.set_cons_succ]))
            (refine wpAnyH_takeG (i := 5) (by kernel_rfl) (by kernel_rfl) (by kernel_rfl) (fun _ _ _ _ _ h => h) hS ?_; intro oi hoi; simp only [List.getElem?_toArray, List.getElem?_cons_succ, List.getElem?_cons_zero] at hoi; cases hoi; refine ⟨?_, by rfl, ?_, ?_⟩; rotate_left; (focus (intro wS hSw; skip; go_simp; (first | done | with_reducible rfl))); (try simp only [Act.put, List.setIfInBounds_toArray, List.set_cons_zero, List.set_cons_succ]))
            (refine wpAnyH_takeG (i := 6) (by kernel_rfl) (by kernel_rfl) (by kernel_rfl) (fun _ _ _ _ _ h => h) hS ?_; intro oi hoi; simp only [List.getElem?_toArray, List.getElem?_cons_succ, List.getElem?_cons_zero] at hoi; cases hoi; refine ⟨?_, by rfl, ?_, ?_⟩; rotate_left; (focus (intro wS hSw; skip; go_simp; (first | done | with_reducible rfl))); (try simp only [Act.put, List.setIfInBounds_toArray, List.set_cons_zero, List.set_cons_succ]))
            refine wpAnyH_done (by kernel_rfl) ?_ _
            refine NoPanic.normal ?_
            clear hS
            go_wp2_with fail
            go_roundg (l.length - (k + 1))
            case measure => have := HM.out; omega
            case rel => exact ⟨k + 1, by go_num, by omega, ⟨by omega⟩, ⟨HR5.out⟩, ⟨HB5.out⟩, ⟨HL5.out⟩⟩
          · rw [h0] at k1 k2
            have HF := Lib.hid (rdF3 x HVx.out HSx.out HBx.out (allB (l.take k)) rest (.inl h0))
            rw [← HZ1.out, HZ2.out] at HF
            go_wp2_with fail
            obtain ⟨wv, hwv⟩ : ∃ W, wr.alloc (.cells #[.int .u8 x.f0, .int .i64 x.f1, .slice A2 x.f2.length c2, .slice A3 x.f3.length c3] 35) = W := ⟨_, rfl⟩
            rw [hwv]
            have HBv := Lib.hid (show Below w0.heap.size w0 wv by rw [← hwv]; exact below_alloc' HB.out _)
            have HRv := Lib.hid (show RdAt wv w0.heap.size r1 ok1 q1 0 (allB (l.take k)).length Z by rw [← hwv]; exact HR.out.kept ((Kept.refl wr (fun _ => False)).alloc _) id (fun _ _ => id))
            have HX := Lib.hid (show ∀ W, Kept wv W (fun k => k = r1) → (W.cell? ⟨wr.heap.size, 1, none⟩ = some (.int .i64 x.f1) ∧ W.cell? ⟨wr.heap.size, 2, none⟩ = some (.slice A2 x.f2.length c2) ∧ W.cell? ⟨wr.heap.size, 3, none⟩ = some (.slice A3 x.f3.length c3)) from fun W hk => by
              have hb : wv.heap[wr.heap.size]? = some (.cells #[.int .u8 x.f0, .int .i64 x.f1, .slice A2 x.f2.length c2, .slice A3 x.f3.length c3] 35 (0, 0)) := by rw [← hwv]; exact blk_new _ _
              have hb2 := blk_kept hb hk (by have := HLT.out; omega)
              exact ⟨(blk_cell hb2 1).trans rfl, (blk_cell hb2 2).trans rfl, (blk_cell hb2 3).trans rfl⟩)
            have HLV := Lib.hid (show r1 < wv.heap.size by rw [← hwv]; have := HLT.out; simp; omega)
            have HBO := Lib.hid (show ∀ W, Kept wv W (fun k => k = r1) → ∀ i, i < w0.heap.size → W.heap[i]? = w0.heap[i]? from fun W hk i hi => (hk.2 i (Nat.lt_of_lt_of_le hi HBv.out.size) (by have := HRv.out.hb; omega)).trans (HBv.out.block i hi))
            have HSZ := Lib.hid (show wv.heap.size = wr.heap.size + 1 by rw [← hwv]; simp)
            clear e0 e1 e2 e3 hwv HR HB
            have h := rdBytes_calls w0 wv r1 ok1 q1 0 (allB (l.take k)).length Z 200 (by omega) (by omega) HBv.out HRv.out
            rw [HF.out] at h
            refine h.mono ?_
            clear h
            rintro r w5 ⟨⟨vx, rfl, hO⟩, hL⟩
            have hO : (Kd.int .u8).R 5 w5 w0.heap.size (fun k => wv.heap.size ≤ k) vx x.f2 := hO
            obtain ⟨Ax, cx, rfl⟩ := Kd.R_slice hO
            have hc1 : StrOf (.slice Ax x.f2.length cx) x.f2 w5 := StrOf.of_R hO
            have hL : RLeft w0 wv r1 ok1 q1 0 (allB (l.take (k + 1))).length Z w5 := hL
            have HR5 := Lib.hid hL.rd
            have HB5 := Lib.hid hL.below
            have HK5 := Lib.hid hL.kept
            have HL5 := Lib.hid (show r1 < w5.heap.size by have := HLV.out; have := HK5.out.1; omega)
            clear hL hO
            have hc2 : StrOf (.slice A2 x.f2.length c2) x.f2 w5 := Kd.C_string Try.underlying28 Try.underlying5 Try.underlying9 (Kd.C_below HG2.out HB5.out)
            unfold StrOf at hc1 hc2
            obtain ⟨s1, s2, s3⟩ := HX.out _ HK5.out
            go_wp2_with fail
            go_roundg (l.length - (k + 1))
            case measure => have := HM.out; omega
            case rel => exact ⟨k + 1, by go_num, by omega, ⟨by omega⟩, ⟨HR5.out⟩, ⟨HB5.out⟩, ⟨HL5.out⟩⟩
          · rw [h0] at k1 k2
            have HF := Lib.hid (rdF3 x HVx.out HSx.out HBx.out (allB (l.take k)) rest (.inr h0))
            rw [← HZ1.out, HZ2.out] at HF
            go_wp2_with fail
            obtain ⟨wv, hwv⟩ : ∃ W, wr.alloc (.cells #[.int .u8 x.f0, .int .i64 x.f1, .slice A2 x.f2.length c2, .slice A3 x.f3.length c3] 35) = W := ⟨_, rfl⟩
            rw [hwv]
            have HBv := Lib.hid (show Below w0.heap.size w0 wv by rw [← hwv]; exact below_alloc' HB.out _)
            have HRv := Lib.hid (show RdAt wv w0.heap.size r1 ok1 q1 0 (allB (l.take k)).length Z by rw [← hwv]; exact HR.out.kept ((Kept.refl wr (fun _ => False)).alloc _) id (fun _ _ => id))
            have HX := Lib.hid (show ∀ W, Kept wv W (fun k => k = r1) → (W.cell? ⟨wr.heap.size, 1, none⟩ = some (.int .i64 x.f1) ∧ W.cell? ⟨wr.heap.size, 2, none⟩ = some (.slice A2 x.f2.length c2) ∧ W.cell? ⟨wr.heap.size, 3, none⟩ = some (.slice A3 x.f3.length c3)) from fun W hk => by
              have hb : wv.heap[wr.heap.size]? = some (.cells #[.int .u8 x.f0, .int .i64 x.f1, .slice A2 x.f2.length c2, .slice A3 x.f3.length c3] 35 (0, 0)) := by rw [← hwv]; exact blk_new _ _
              have hb2 := blk_kept hb hk (by have := HLT.out; omega)
              exact ⟨(blk_cell hb2 1).trans rfl, (blk_cell hb2 2).trans rfl, (blk_cell hb2 3).trans rfl⟩)
            have HLV := Lib.hid (show r1 < wv.heap.size by rw [← hwv]; have := HLT.out; simp; omega)
            have HBO := Lib.hid (show ∀ W, Kept wv W (fun k => k = r1) → ∀ i, i < w0.heap.size → W.heap[i]? = w0.heap[i]? from fun W hk i hi => (hk.2 i (Nat.lt_of_lt_of_le hi HBv.out.size) (by have := HRv.out.hb; omega)).trans (HBv.out.block i hi))
            have HSZ := Lib.hid (show wv.heap.size = wr.heap.size + 1 by rw [← hwv]; simp)
            clear e0 e1 e2 e3 hwv HR HB
            refine wp_region_noPanic ?_
            refine wp_region_held_drew (S := fun W => Kept wv W (fun k => k = r1)) (by kernel_rfl) ((Kept.refl _ _).drew) (fun hS => ?_)
            have HD := Lib.hid (HRv.out.kept ((Kept.refl wv (fun _ => False)).drew) id (fun _ _ => id))
            have HBd := Lib.hid (Below.drew HBv.out)
            have HT := Lib.hid (show ∀ W, Kept wv W (fun k => k = r1) → StrOf (.slice A2 x.f2.length c2) x.f2 W from fun W hk => Kd.C_string Try.underlying28 Try.underlying5 Try.underlying9 ((Kd.heap_int .u8).C (HBO.out W hk) HG2.out))
            (refine wpAnyH_takeG (i := 0) (by kernel_rfl) (by kernel_rfl) (by kernel_rfl) (fun _ _ _ _ _ h => h) hS ?_; intro oi hoi; simp only [List.getElem?_toArray, List.getElem?_cons_succ, List.getElem?_cons_zero] at hoi; cases hoi; refine ⟨?_, by rfl, ?_, ?_⟩; rotate_left; (focus (intro wS hSw; skip; go_simp; (first | done | with_reducible rfl))); (try simp only [Act.put, List.setIfInBounds_toArray, List.set_cons_zero, List.set_cons_succ]))
            (refine wpAnyH_takeG (i := 2) (by kernel_rfl) (by kernel_rfl) (by kernel_rfl) (fun _ _ _ _ _ h => h) hS ?_; intro oi hoi; simp only [List.getElem?_toArray, List.getElem?_cons_succ, List.getElem?_cons_zero] at hoi; cases hoi; refine ⟨?_, by rfl, ?_, ?_⟩; rotate_left; (focus (intro wS hSw; skip; go_simp; (first | done | with_reducible rfl))); (try simp only [Act.put, List.setIfInBounds_toArray, List.set_cons_zero, List.set_cons_succ]))
            (refine wpAnyH_takeG (i := 3) (by kernel_rfl) (by kernel_rfl) (by kernel_rfl) (fun _ _ _ _ _ h => h) hS ?_; intro oi hoi; simp only [List.getElem?_toArray, List.getElem?_cons_succ, List.getElem?_cons_zero] at hoi; cases hoi; refine ⟨?_, by rfl, ?_, ?_⟩; rotate_left; (focus (intro wS hSw; obtain ⟨s1, s2, s3⟩ := HX.out wS hSw; go_simp; (first | done | with_reducible rfl))); (try simp only [Act.put, List.setIfInBounds_toArray, List.set_cons_zero, List.set_cons_succ]))
            (refine wpAnyH_takeG (i := 4) (by kernel_rfl) (by kernel_rfl) (by kernel_rfl) (fun _ _ _ _ _ h => h) hS ?_; intro oi hoi; simp only [List.getElem?_toArray, List.getElem?_cons_succ, List.getElem?_cons_zero] at hoi; cases hoi; refine ⟨?_, by rfl, ?_, ?_⟩; rotate_left; (focus (intro wS hSw; have hc := HT.out wS hSw; unfold StrOf at hc; go_simp; (first | done | with_reducible rfl))); (try simp only [Act.put, List.setIfInBounds_toArray, List.set_cons_zero, List.set_cons_succ]))
            have hu : Calls Try.prog 29 #[.pointer (some ⟨r1, 0, none⟩), .int .i64 200] wv.drew (fun r w' => r = .returned (.string (strOfNums x.f2)) ∧ RLeft w0 wv.drew r1 ok1 q1 0 (allB (l.take (k + 1))).length Z w') := by
              have h := rdString_calls w0 wv.drew r1 ok1 q1 0 (allB (l.take k)).length Z 200 (by omega) (by omega) HBd.out HD.out; rw [HF.out] at h; exact h
            (refine wpAnyH_oneG (i := 1) (by kernel_rfl) ?_; intro oi hoi K' hK; simp only [List.getElem?_toArray, List.getElem?_cons_succ, List.getElem?_cons_zero] at hoi; cases hoi; go_simp; (refine hu.mono ?_; clear hu; rintro r w5 ⟨rfl, hL⟩); go_wp2_with fail)
            have HR5 := Lib.hid hL.rd
            have HB5 := Lib.hid hL.below
            have HK5 := Lib.hid (((Kept.refl wv (fun k => k = r1)).drew).then_ hL.kept (fun _ h => .inl h))
            have HL5 := Lib.hid (show r1 < w5.heap.size by have := HLV.out; have := HK5.out.1; omega)
            clear hL
            (refine hK.out _ _ ?_ (fun hS => ?_); (focus (exact HK5.out)); clear hK K'; (try simp only [Act.put, List.setIfInBounds_toArray, List.set_cons_zero, List.set_cons_succ]))
            (refine wpAnyH_takeG (i := 5) (by kernel_rfl) (by kernel_rfl) (by kernel_rfl) (fun _ _ _ _ _ h => h) hS ?_; intro oi hoi; simp only [List.getElem?_toArray, List.getElem?_cons_succ, List.getElem?_cons_zero] at hoi; cases hoi; refine ⟨?_, by rfl, ?_, ?_⟩; rotate_left; (focus (intro wS hSw; skip; go_simp; (first | done | with_reducible rfl))); (try simp only [Act.put, List.setIfInBounds_toArray, List.set_cons_zero, List.set_cons_succ]))
            (refine wpAnyH_takeG (i := 6) (by kernel_rfl) (by kernel_rfl) (by kernel_rfl) (fun _ _ _ _ _ h => h) hS ?_; intro oi hoi; simp only [List.getElem?_toArray, List.getElem?_cons_succ, List.getElem?_cons_zero] at hoi; cases hoi; refine ⟨?_, by rfl, ?_, ?_⟩; rotate_left; (focus (intro wS hSw; skip; go_simp; (first | done | with_reducible rfl))); (try simp only [Act.put, List.setIfInBounds_toArray, List.set_cons_zero, List.set_cons_succ]))
            refine wpAnyH_done (by kernel_rfl) ?_ _
            refine NoPanic.normal ?_
            clear hS
            go_wp2_with fail
            go_roundg (l.length - (k + 1))
            case measure => have := HM.out; omega
            case rel => exact ⟨k + 1, by go_num, by omega, ⟨by omega⟩, ⟨HR5.out⟩, ⟨HB5.out⟩, ⟨HL5.out⟩⟩
          · rw [h0] at k1 k2
            have HF := Lib.hid (rdF5 x HVx.out HSx.out HBx.out (allB (l.take k)) rest h0)
            rw [← HZ1.out, HZ2.out] at HF
            go_wp2_with fail
            obtain ⟨wv, hwv⟩ : ∃ W, wr.alloc (.cells #[.int .u8 x.f0, .int .i64 x.f1, .slice A2 x.f2.length c2, .slice A3 x.f3.length c3] 35) = W := ⟨_, rfl⟩
            rw [hwv]
            have HBv := Lib.hid (show Below w0.heap.size w0 wv by rw [← hwv]; exact below_alloc' HB.out _)
            have HRv := Lib.hid (show RdAt wv w0.heap.size r1 ok1 q1 0 (allB (l.take k)).length Z by rw [← hwv]; exact HR.out.kept ((Kept.refl wr (fun _ => False)).alloc _) id (fun _ _ => id))
            have HX := Lib.hid (show ∀ W, Kept wv W (fun k => k = r1) → (W.cell? ⟨wr.heap.size, 1, none⟩ = some (.int .i64 x.f1) ∧ W.cell? ⟨wr.heap.size, 2, none⟩ = some (.slice A2 x.f2.length c2) ∧ W.cell? ⟨wr.heap.size, 3, none⟩ = some (.slice A3 x.f3.length c3)) from fun W hk => by
              have hb : wv.heap[wr.heap.size]? = some (.cells #[.int .u8 x.f0, .int .i64 x.f1, .slice A2 x.f2.length c2, .slice A3 x.f3.length c3] 35 (0, 0)) := by rw [← hwv]; exact blk_new _ _
              have hb2 := blk_kept hb hk (by have := HLT.out; omega)
              exact ⟨(blk_cell hb2 1).trans rfl, (blk_cell hb2 2).trans rfl, (blk_cell hb2 3).trans rfl⟩)
            have HLV := Lib.hid (show r1 < wv.heap.size by rw [← hwv]; have := HLT.out; simp; omega)
            have HBO := Lib.hid (show ∀ W, Kept wv W (fun k => k = r1) → ∀ i, i < w0.heap.size → W.heap[i]? = w0.heap[i]? from fun W hk i hi => (hk.2 i (Nat.lt_of_lt_of_le hi HBv.out.size) (by have := HRv.out.hb; omega)).trans (HBv.out.block i hi))
            have HSZ := Lib.hid (show wv.heap.size = wr.heap.size + 1 by rw [← hwv]; simp)
            clear e0 e1 e2 e3 hwv HR HB
            refine wp_region_noPanic ?_
            refine wp_region_held_drew (S := fun W => Kept wv W (fun k => k = r1)) (by kernel_rfl) ((Kept.refl _ _).drew) (fun hS => ?_)
            have HD := Lib.hid (HRv.out.kept ((Kept.refl wv (fun _ => False)).drew) id (fun _ _ => id))
            have HBd := Lib.hid (Below.drew HBv.out)
            (refine wpAnyH_takeG (i := 0) (by kernel_rfl) (by kernel_rfl) (by kernel_rfl) (fun _ _ _ _ _ h => h) hS ?_; intro oi hoi; simp only [List.getElem?_toArray, List.getElem?_cons_succ, List.getElem?_cons_zero] at hoi; cases hoi; refine ⟨?_, by rfl, ?_, ?_⟩; rotate_left; (focus (intro wS hSw; skip; go_simp; (first | done | with_reducible rfl))); (try simp only [Act.put, List.setIfInBounds_toArray, List.set_cons_zero, List.set_cons_succ]))
            (refine wpAnyH_takeG (i := 2) (by kernel_rfl) (by kernel_rfl) (by kernel_rfl) (fun _ _ _ _ _ h => h) hS ?_; intro oi hoi; simp only [List.getElem?_toArray, List.getElem?_cons_succ, List.getElem?_cons_zero] at hoi; cases hoi; refine ⟨?_, by rfl, ?_, ?_⟩; rotate_left; (focus (intro wS hSw; skip; go_simp; (first | done | with_reducible rfl))); (try simp only [Act.put, List.setIfInBounds_toArray, List.set_cons_zero, List.set_cons_succ]))
            (refine wpAnyH_takeG (i := 3) (by kernel_rfl) (by kernel_rfl) (by kernel_rfl) (fun _ _ _ _ _ h => h) hS ?_; intro oi hoi; simp only [List.getElem?_toArray, List.getElem?_cons_succ, List.getElem?_cons_zero] at hoi; cases hoi; refine ⟨?_, by rfl, ?_, ?_⟩; rotate_left; (focus (intro wS hSw; obtain ⟨s1, s2, s3⟩ := HX.out wS hSw; go_simp; (first | done | with_reducible rfl))); (try simp only [Act.put, List.setIfInBounds_toArray, List.set_cons_zero, List.set_cons_succ]))
            have hu : Calls Try.prog 31 #[.pointer (some ⟨r1, 0, none⟩), .int .i64 50] wv.drew (fun r w' => (∃ v', r = .returned v' ∧ (Kd.int .i64).R 3 w' w0.heap.size (fun k => wv.drew.heap.size ≤ k) v' x.f3) ∧ RLeft w0 wv.drew r1 ok1 q1 0 (allB (l.take (k + 1))).length Z w') := by
              have h := rdInts_calls w0 wv.drew r1 ok1 q1 0 (allB (l.take k)).length Z 50 (by omega) (by omega) HBd.out HD.out (fun k hk => Nat.lt_trans (HOK.out k hk) HLV.out); rw [HF.out] at h; exact h
            (refine wpAnyH_oneG (i := 1) (by kernel_rfl) ?_; intro oi hoi K' hK; simp only [List.getElem?_toArray, List.getElem?_cons_succ, List.getElem?_cons_zero] at hoi; cases hoi; go_simp; (refine hu.mono ?_; clear hu; rintro r w5 ⟨⟨vx, rfl, hO⟩, hL⟩; obtain ⟨Ax, cx, rfl⟩ := Kd.R_slice hO); go_wp2_with fail)
            have HO5 := Lib.hid hO
            clear hO
            have HR5 := Lib.hid hL.rd
            have HB5 := Lib.hid hL.below
            have HK5 := Lib.hid (((Kept.refl wv (fun k => k = r1)).drew).then_ hL.kept (fun _ h => .inl h))
            have HL5 := Lib.hid (show r1 < w5.heap.size by have := HLV.out; have := HK5.out.1; omega)
            clear hL
            (refine hK.out _ _ ?_ (fun hS => ?_); (focus (exact HK5.out)); clear hK K'; (try simp only [Act.put, List.setIfInBounds_toArray, List.set_cons_zero, List.set_cons_succ]))
            (refine wpAnyH_oneG (i := 4) (by kernel_rfl) ?_; intro oi hoi K' hK; simp only [List.getElem?_toArray, List.getElem?_cons_succ, List.getElem?_cons_zero] at hoi; cases hoi; go_simp; (refine (equal_calls _ x.f3 Ax A3 cx c3 ((Kd.R_reads' HO5.out).2.2) (Kd.C_below HG3.out HB5.out) (by have := HSx.out.2; omega)).mono ?_; rintro r w6 ⟨rfl, m, rfl⟩); go_wp2_with fail)
            (refine hK.out _ _ ?_ (fun hS => ?_); (focus (exact HK5.out.drewN m)); clear hK K'; (try simp only [Act.put, List.setIfInBounds_toArray, List.set_cons_zero, List.set_cons_succ]))
            (refine wpAnyH_takeG (i := 5) (by kernel_rfl) (by kernel_rfl) (by kernel_rfl) (fun _ _ _ _ _ h => h) hS ?_; intro oi hoi; simp only [List.getElem?_toArray, List.getElem?_cons_succ, List.getElem?_cons_zero] at hoi; cases hoi; refine ⟨?_, by rfl, ?_, ?_⟩; rotate_left; (focus (intro wS hSw; skip; go_simp; (first | done | with_reducible rfl))); (try simp only [Act.put, List.setIfInBounds_toArray, List.set_cons_zero, List.set_cons_succ]))
            refine wpAnyH_done (by kernel_rfl) ?_ _
            refine NoPanic.normal ?_
            clear hS
            go_wp2_with fail
            go_roundg (l.length - (k + 1))
            case measure => have := HM.out; omega
            case rel => exact ⟨k + 1, by go_num, by omega, ⟨by omega⟩, ⟨HR5.out.drewN m⟩, ⟨pw_below_drewN HB5.out m⟩, ⟨HL5.out⟩⟩
        · have c1 : decide ((k : Int) < (l.length : Int)) = false := decide_eq_false (by omega)
          have hkl : l.take k = l := List.take_of_length_le (by omega)
          have hr := HR.out
          rw [hkl, HZ.out] at hr
          have hee := Lib.hid (show endE 0 Z.length Z = 0 by unfold endE; simp)
          have hd := rdEnd_calls wr _ r1 ok1 q1 0 Z.length Z hr
          rw [hee.out] at hd
          have HD := Lib.hid hd
          have HR5 := Lib.hid hr
          clear hd hr hkl
          go_wp2_with fail
          refine HD.out.mono ?_
          rintro r w5 ⟨rfl, m, rfl⟩
          go_wp2_with fail
          refine (rdAt_calls _ _ r1 ok1 q1 0 Z.length Z (HR5.out.drewN m)).mono ?_
          rintro r w6 ⟨rfl, rfl⟩
          go_wp2_with fail
          refine (known_calls _).mono ?_
          rintro r w7 ⟨rfl, hb⟩
          have HBx := Lib.hid (Below.trans' (pw_below_drewN HB.out m) hb)
          clear hb
          go_wp2_with fail
          go_ret
          exact ⟨rfl, HBx.out⟩
theorem again_law (A : Option Addr) (c : Nat) (l : List Val) (w : World) (hC : Kd.C kVal w A l.length l) (hV : ∀ x ∈ l, ValOk x) : Calls Try.prog 7 #[.slice A l.length c] w (fun r w' => r = .returned (.bool true) ∧ Below w.heap.size w w') := again_walk w l A c hC hV
end Go.Proofs.Ytpbmfdflmmeghaa.Wire
