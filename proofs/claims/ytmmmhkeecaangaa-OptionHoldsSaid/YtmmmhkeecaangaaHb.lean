/- OptionHolds: the law's walk: it answers true, and what was there stands. Conditions: the bytes are bytes. -/
import Derived.Test.YtmmmhkeecaangaaHa
namespace Go.Proofs.Ytmmmhkeecaangaa.Q
open Go.RowKit Go.Maps Go.Proofs.YtmmmhkeecaangaaW.PrintWords Go.Proofs.YtmmmhkeecaangaaW.PrintLast Go.Proofs.YtmmmhkeecaangaaW.PrintMore Go.Proofs.Ytmmmhkeecaangaa.Wire
set_option linter.unusedVariables false
set_option linter.unusedSimpArgs false

set_option maxHeartbeats 8000000 in
set_option maxRecDepth 100000 in
theorem holds_calls (w : World) (s p : Int) (A : Option Addr) (cp : Nat) (l : List Int) (h c : Int) (F : Option Addr) (fp : Nat) (fs : List Int) (S : Option Addr) (sp : Nat) (bs : List Int)
    (hC : (Kd.int .i64).C w A l.length l) (hc : l.length ≤ cp) (hCf : (Kd.int .i64).C w F fs.length fs) (hcf : fs.length ≤ fp) (hCs : (Kd.int .u8).C w S bs.length bs) (hcs : bs.length ≤ sp) (hby : ∀ x ∈ bs, 0 ≤ x ∧ x < 256) :
    Calls Try.prog 9 #[.agg #[.int .i64 s, .int .i64 p, .slice A l.length cp], .int .i64 h, .int .i64 c, .slice F fs.length fp, .slice S bs.length sp] w (fun r w' => r = .returned (.bool true) ∧ Below w.heap.size w w') := by
  have HH := Lib.hid (show Hd w (w.alloc (.cells #[.int .i64 s, .int .i64 p, .slice A l.length cp] 37)) s p A cp l F fs S bs from ⟨below_alloc' (Below.refl _ _) _, blk_new _ _, Kd.C_alloc hC _, Kd.C_alloc hCf _, Kd.C_alloc hCs _⟩)
  have HL := Lib.hid hc
  have HLF := Lib.hid hcf
  have HLS := Lib.hid hcs
  have HBY := Lib.hid hby
  clear hC hc hCf hcf hCs hcs hby
  have easy : ∀ W : World, Below w.heap.size w W → Calls Try.prog 15 #[] W (fun r w' => r = .returned (.bool true) ∧ Below w.heap.size w w') := fun W hW => (known_calls W).mono (fun r w' hr => ⟨hr.1, below_step hW hr.2⟩)
  have EASY := Lib.hid easy
  clear easy
  by_cases a1 : 20 < l.length
  · have d1 : decide (20 < (l.length : Int)) = true := decide_eq_true (by omega)
    clear a1
    go_enter Try.func9, Try.ntmps9
    go_wp2_with fail
    refine (EASY.out _ HH.out.b).mono ?_
    rintro r w2 ⟨rfl, hB2⟩
    have HB2 := Lib.hid hB2
    clear hB2
    go_wp2_with fail
    go_ret
    exact ⟨rfl, HB2.out⟩
  have d1 : decide (20 < (l.length : Int)) = false := decide_eq_false (by omega)
  by_cases a2 : 20 < fs.length
  · have d2 : decide (20 < (fs.length : Int)) = true := decide_eq_true (by omega)
    clear a1 a2
    go_enter Try.func9, Try.ntmps9
    go_wp2_with fail
    refine (EASY.out _ HH.out.b).mono ?_
    rintro r w2 ⟨rfl, hB2⟩
    have HB2 := Lib.hid hB2
    clear hB2
    go_wp2_with fail
    go_ret
    exact ⟨rfl, HB2.out⟩
  have d2 : decide (20 < (fs.length : Int)) = false := decide_eq_false (by omega)
  by_cases a3 : 1000 < bs.length
  · have d3 : decide (1000 < (bs.length : Int)) = true := decide_eq_true (by omega)
    clear a1 a2 a3
    go_enter Try.func9, Try.ntmps9
    go_wp2_with fail
    refine (EASY.out _ HH.out.b).mono ?_
    rintro r w2 ⟨rfl, hB2⟩
    have HB2 := Lib.hid hB2
    clear hB2
    go_wp2_with fail
    go_ret
    exact ⟨rfl, HB2.out⟩
  have d3 : decide (1000 < (bs.length : Int)) = false := decide_eq_false (by omega)
  have HA := Lib.hid (show l.length ≤ 20 ∧ fs.length ≤ 20 ∧ bs.length ≤ 1000 by omega)
  clear a1 a2 a3
  obtain ⟨hs0, hs1, hs2⟩ := HH.out.c0
  go_enter Try.func9, Try.ntmps9
  go_wp2_with fail
  refine (bidValid_calls _ _ s p A cp l (Below.refl _ _) HH.out.l HL.out).mono ?_
  rintro r w2 ⟨rfl, hB2, _⟩
  have H2 := Lib.hid (HH.out.step hB2)
  clear hB2 HH hs0 hs1 hs2 d1 d2 d3
  go_upto_if 39 with fail
  go_cut [] from 39 to 63 (fun w' => Hd w w' s p A cp l F fs S bs)
  case first =>
    cases hv : validB s p l with
    | false =>
      clear hv
      go_wp2_with fail
      go_meet
      case rel => exact H2.out
    | true =>
      have HV := Lib.hid hv
      clear hv
      have HVB := Lib.hid (show validBids [(⟨s, p, l⟩ : Bid)] = true by unfold validBids vbL vbL; simp [HV.out])
      have HED := Lib.hid (enc_dec ⟨s, p, l⟩ HV.out)
      have HEL := Lib.hid (encBytes_len (x := ⟨s, p, l⟩) HV.out)
      have HL3 := Lib.hid (validB_facts HV.out).2.1
      obtain ⟨hs0, hs1, hs2⟩ := H2.out.c0
      have HCL := Lib.hid (C_litB (x := ⟨s, p, l⟩) (fr := (0, 0)) (blk_new w2 (.cells #[.int .i64 s, .int .i64 p, .slice A l.length cp] 37)) HL.out (Kd.C_alloc H2.out.l _))
      have H3 := Lib.hid (H2.out.step (below_alloc' (Below.refl _ _) (.cells #[.int .i64 s, .int .i64 p, .slice A l.length cp] 37)))
      go_wp2_with fail
      refine (enc_c _ _ _ [⟨s, p, l⟩] HCL.out HVB.out (by simp)).mono ?_
      rintro r w4 ⟨A4, c4, rfl, hc4, hC4, hB4⟩
      have H4 := Lib.hid (H3.out.step hB4)
      have HC4 := Lib.hid hC4
      clear hc4 hC4 hB4 HCL H3 hs0 hs1 hs2 H2
      go_wp2_with fail
      refine (dec_c _ _ _ _ HC4.out (by have := HEL.out; omega) (encBytes_byte _)).mono ?_
      rintro r w5 ⟨A5, c5, rfl, hc5, hC5, hB5⟩
      have H5 := Lib.hid (H4.out.step hB5)
      rw [HED.out.2]
      rw [HED.out.1] at hc5 hC5 ⊢
      have HC5 := Lib.hid hC5
      have hc5' : 1 ≤ c5 := hc5
      clear hc5 hC5 hB5 HC4 H4
      obtain ⟨hs0, hs1, hs2⟩ := H5.out.c0
      have HCL := Lib.hid (C_litB (x := ⟨s, p, l⟩) (fr := (0, 0)) (blk_new w5 (.cells #[.int .i64 s, .int .i64 p, .slice A l.length cp] 37)) HL.out (Kd.C_alloc H5.out.l _))
      have H6 := Lib.hid (H5.out.step (below_alloc' (Below.refl _ _) (.cells #[.int .i64 s, .int .i64 p, .slice A l.length cp] 37)))
      have HC6 := Lib.hid (Kd.C_alloc HC5.out (.cells #[.int .i64 s, .int .i64 p, .slice A l.length cp] 37))
      go_wp2_with fail
      refine (same_c _ _ _ _ _ ⟨s, p, l⟩ HC6.out hc5' HCL.out (Nat.le_refl _) HL3.out).mono ?_
      rintro r w7 ⟨rfl, hB7⟩
      have H7 := Lib.hid (H6.out.step hB7)
      clear hB7 HCL H6 H5 HC6 hs0 hs1 hs2
      go_wp2_with fail
      go_meet
      case rel => exact H7.out
  case rest =>
  have H8 := Lib.hid hcut
  clear hcut H2
  go_wp2_with fail
  refine (dec_c _ _ _ _ H8.out.s (by have := HA.out; omega) HBY.out).mono ?_
  rintro r w9 ⟨A9, c9, rfl, hc9, hC9, hB9⟩
  have H9 := Lib.hid (H8.out.step hB9)
  have HC9 := Lib.hid hC9
  have HDE := Lib.hid (fun he => dec_enc HBY.out he)
  have HLC9 := Lib.hid hc9
  clear hc9 hC9 hB9 H8
  generalize decErr bs = de at HDE ⊢
  generalize decL bs = dl at HDE HC9 HLC9 ⊢
  go_upto_if 70 with fail
  go_cut [] from 71 to 89 (fun w' => Hd w w' s p A cp l F fs S bs)
  case first =>
    by_cases he : de = 0
    · subst he
      obtain ⟨hvb, hdl, heb⟩ := HDE.out rfl
      have HVB := Lib.hid hvb
      have HDL := Lib.hid hdl
      have HEB := Lib.hid heb
      clear hvb hdl heb HDE
      go_wp2_with fail
      refine (enc_c _ _ _ dl HC9.out HVB.out (by have := HDL.out; omega)).mono ?_
      rintro r w10 ⟨A10, c10, rfl, hc10, hC10, hB10⟩
      rw [HEB.out] at hC10 ⊢
      have H10 := Lib.hid (H9.out.step hB10)
      have HC10 := Lib.hid hC10
      have HCD := Lib.hid (Kd.C_below HC9.out hB10)
      clear hc10 hC10 hB10 HC9 H9 HEB
      have T1 : (convert 48 9 (.slice A10 bs.length c10)).run Try.prog w10 = .ok (.string (strOfNums bs)) w10 := Kd.C_string (dst := 9) Try.underlying48 Try.underlying5 Try.underlying9 HC10.out
      have T2 : (convert 48 9 (.slice S bs.length sp)).run Try.prog w10 = .ok (.string (strOfNums bs)) w10 := Kd.C_string (dst := 9) Try.underlying48 Try.underlying5 Try.underlying9 H10.out.s
      generalize strOfNums bs = st at T1 T2
      go_wp2_with fail
      refine (validBids_calls _ _ A9 c9 dl (Below.refl _ _) HCD.out (by have := HDL.out; omega)).mono ?_
      rintro r w11 ⟨rfl, hB11, _⟩
      rw [HVB.out]
      have H11 := Lib.hid (H10.out.step hB11)
      clear hB11 H10 T1 T2
      go_wp2_with fail
      go_meet
      case rel => exact H11.out
    · have de1 : (de == 0) = false := beq_eq_false_iff_ne.mpr he
      clear he HDE
      go_wp2_with fail
      go_meet
      case rel => exact H9.out
  case rest =>
  have H12 := Lib.hid hcut
  clear hcut H9 HDE HC9 HLC9
  obtain ⟨hs0, hs1, hs2⟩ := H12.out.c0
  go_wp2_with fail
  refine (choose_calls _ _ s p h c A cp l F fp fs (Below.refl _ _) H12.out.l HL.out H12.out.f (by have := HA.out; omega)).mono ?_
  rintro r w13 hP
  obtain ⟨rfl, hB13, _⟩ := hP
  have H13 := Lib.hid (H12.out.step hB13)
  clear hB13 H12 hs0 hs1 hs2
  cases hcb : chooseB s p l h c fs with
  | false =>
    clear hcb
    simp only [Bool.false_eq_true, if_false]
    go_wp2_with fail
    refine (EASY.out _ H13.out.b).mono ?_
    rintro r w14 ⟨rfl, hB14⟩
    have HB14 := Lib.hid hB14
    clear hB14
    go_wp2_with fail
    go_ret
    exact ⟨rfl, HB14.out⟩
  | true =>
    have HPF := Lib.hid (pick_facts hcb)
    have HPS := Lib.hid (fun i hi hn => pick_skip (p := p) (l := l) (c := c) (fs := fs) (i := i) hi hn)
    clear hcb
    simp only [if_true]
    generalize pickB p l c fs = o at HPF HPS ⊢
    go_upto_region 16 with fail
    go_cut [132] from 105 to 131 (fun v w' => v = .bool false ∧ Hd w w' s p A cp l F fs S bs)
    case first =>
      obtain ⟨hf1, hf2, hf3⟩ := HPF.out
      obtain ⟨hs0, hs1, hs2⟩ := H13.out.c0
      have HP3 := Lib.hid hf3
      have HP2 := Lib.hid hf2
      clear hf2 hf3 HPF
      by_cases q1 : o = c
      · have b1 : (o != c) = false := bne_eq_false_iff_eq.mpr q1
        have HQ := Lib.hid q1
        clear q1
        go_wp2_with fail
        refine (allowed_calls _ h c o).mono ?_
        rintro r w14 ⟨rfl, rfl⟩
        rw [hf1]
        go_wp2_with fail
        refine (has_c _ F fp fs p H13.out.f HLF.out (by have := HA.out; omega)).mono ?_
        rintro r w15 ⟨rfl, hB15⟩
        have H15 := Lib.hid (H13.out.step hB15)
        obtain ⟨ht0, ht1, ht2⟩ := H15.out.c0
        clear hB15 hs0 hs1 hs2 H13
        cases q2 : fs.contains p with
        | true =>
          have b2 : (o != p) = false := bne_eq_false_iff_eq.mpr (HP3.out q2)
          clear q2
          go_wp2_with fail
          go_meet
          case rel => exact ⟨rfl, H15.out⟩
        | false =>
          clear q2
          go_wp2_with fail
          go_meet
          case rel => exact ⟨rfl, H15.out⟩
      · have b1 : (o != c) = true := bne_iff_ne.mpr q1
        have b3 := HP2.out q1
        clear q1
        go_wp2_with fail
        refine (allowed_calls _ h c o).mono ?_
        rintro r w14 ⟨rfl, rfl⟩
        rw [hf1]
        go_wp2_with fail
        refine (has_c _ F fp fs o H13.out.f HLF.out (by have := HA.out; omega)).mono ?_
        rintro r w14 ⟨rfl, hB14⟩
        have H14 := Lib.hid (H13.out.step hB14)
        rw [b3]
        obtain ⟨hs0, hs1, hs2⟩ := H14.out.c0
        clear hB14 H13 b3
        go_wp2_with fail
        refine (has_c _ F fp fs p H14.out.f HLF.out (by have := HA.out; omega)).mono ?_
        rintro r w15 ⟨rfl, hB15⟩
        have H15 := Lib.hid (H14.out.step hB15)
        obtain ⟨ht0, ht1, ht2⟩ := H15.out.c0
        clear hB15 hs0 hs1 hs2 H14
        cases q2 : fs.contains p with
        | true =>
          have b2 : (o != p) = false := bne_eq_false_iff_eq.mpr (HP3.out q2)
          clear q2
          go_wp2_with fail
          go_meet
          case rel => exact ⟨rfl, H15.out⟩
        | false =>
          clear q2
          go_wp2_with fail
          go_meet
          case rel => exact ⟨rfl, H15.out⟩
    case rest =>
    obtain ⟨rfl, hcut⟩ := hcut
    have H14 := Lib.hid hcut
    clear hcut H13 HPF
    obtain ⟨hs0, hs1, hs2⟩ := H14.out.c0
    go_wp2_with fail
    refine (named_c _ s p A cp l H14.out.l HL.out (by have := HA.out; omega)).mono ?_
    rintro r w15 ⟨A5, c5, rfl, hc5, hC5, hB15⟩
    have H15 := Lib.hid (H14.out.step hB15)
    have HC5 := Lib.hid hC5
    have HLL := Lib.hid (show (p :: l).length ≤ 21 by have := HA.out; simp; omega)
    clear hc5 hC5 hB15 H14 hs0 hs1 hs2
    generalize p :: l = L at HC5 HPS HLL ⊢
    go_wp2_with fail
    go_loopg [22] L.length (fun g v22 w' => ∃ k : Nat, v22 = .int .i64 k ∧ k ≤ L.length ∧ Aside0 (g + k = L.length) ∧ Aside0 (∀ j, j < k → L.getD j 0 ≠ o) ∧ Aside0 (Hd w w' s p A cp l F fs S bs) ∧ Aside0 ((Kd.int .i64).C w' A5 L.length L))
    case atStart => exact ⟨0, rfl, Nat.zero_le _, ⟨rfl⟩, ⟨fun j hj => absurd hj (Nat.not_lt_zero _)⟩, ⟨H15.out⟩, ⟨HC5.out⟩⟩
    case round =>
      obtain ⟨k, rfl, hk, HM, HN, Hr, HCr⟩ := hrel
      by_cases hlt : k < L.length
      · have q1 : decide ((k : Int) < (L.length : Int)) = true := decide_eq_true (by omega)
        obtain ⟨ad, hA, hcell⟩ := C_at HCr.out k hlt
        subst hA
        by_cases hx : L.getD k 0 = o
        · have b1 : (L.getD k 0 != o) = false := bne_eq_false_iff_eq.mpr hx
          clear hx
          generalize L.getD k 0 = x at hcell b1
          go_wp2_with fail
          refine (EASY.out _ Hr.out.b).mono ?_
          rintro r w14 ⟨rfl, hB14⟩
          have HB14 := Lib.hid hB14
          clear hB14
          go_wp2_with fail
          go_ret
          exact ⟨rfl, HB14.out⟩
        · have b1 : (L.getD k 0 != o) = true := bne_iff_ne.mpr hx
          have HN2 := Lib.hid (show ∀ j, j < k + 1 → L.getD j 0 ≠ o from fun j hj => by
            rcases Nat.lt_or_eq_of_le (Nat.lt_succ_iff.1 hj) with h1 | h1
            · exact HN.out j h1
            · rw [h1]; exact hx)
          obtain ⟨hx1, hx2⟩ := HPS.out k hlt (fun j hj => HN2.out j (by omega))
          have b2 : (L.getD k 0 == c) = false := beq_eq_false_iff_ne.mpr hx1
          have HX2 := Lib.hid hx2
          clear hx hx1 hx2 HN
          generalize L.getD k 0 = x at hcell b1 b2 HX2
          go_wp2_with fail
          refine (has_c _ F fp fs x Hr.out.f HLF.out (by have := HA.out; omega)).mono ?_
          rintro r w14 ⟨rfl, hB14⟩
          have H14 := Lib.hid (Hr.out.step hB14)
          have HC14 := Lib.hid (Kd.C_below HCr.out hB14)
          rw [HX2.out]
          clear hB14 hcell HCr Hr
          go_wp2_with fail
          go_roundg (L.length - (k + 1))
          case measure => have := HM.out; omega
          case rel => have hll := HLL.out; exact ⟨k + 1, by rw [wrap_s k (by omega)], by omega, ⟨by omega⟩, ⟨HN2.out⟩, ⟨H14.out⟩, ⟨HC14.out⟩⟩
      · have q1 : decide ((k : Int) < (L.length : Int)) = false := decide_eq_false (by omega)
        go_wp2_with fail
        refine (EASY.out _ Hr.out.b).mono ?_
        rintro r w14 ⟨rfl, hB14⟩
        have HB14 := Lib.hid hB14
        clear hB14
        go_wp2_with fail
        go_ret
        exact ⟨rfl, HB14.out⟩
end Go.Proofs.Ytmmmhkeecaangaa.Q
