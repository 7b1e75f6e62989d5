import Derived.Test.YtpbmfdflmmeghaaWy
namespace Go.Proofs.Ytpbmfdflmmeghaa.Wire
open Go.RowKit Go.Proofs.YtpbmfdflmmeghaaW.PrintWords Go.Proofs.YtpbmfdflmmeghaaW.PrintLast Go.Proofs.YtpbmfdflmmeghaaW.PrintMore
set_option linter.unusedVariables false
set_option linter.unusedSimpArgs false

set_option maxRecDepth 100000 in
set_option maxHeartbeats 40000000 in
theorem numbers_walk (n : Int) (w : World) (h0 : -9223372036854775808 ≤ n) (h1 : n ≤ 9223372036854775807) :
    Calls Try.prog 5 #[.int .i64 n] w (fun r w' => r = .returned (.bool true) ∧ Below w.heap.size w w') := by
  have HB1 := Lib.hid (below_alloc' (below_alloc' (Below.refl w.heap.size w) (.cells #[.int .i64 0, .slice none 0 0] 30)) (.cells #[.int .i64 0, .slice none 0 0] 30))
  have HU1 : Hid (WrAt ((w.alloc (.cells #[.int .i64 0, .slice none 0 0] 30)).alloc (.cells #[.int .i64 0, .slice none 0 0] 30)) w.heap.size w.heap.size (fun k => k = w.heap.size) (.slice none 0 0) 0 []) := ⟨Nat.le_refl _, rfl, blk_alloc (blk_new _ _) _, Kd.R_nil _ _ _ _ _, by simp⟩
  have HV1 : Hid (WrAt ((w.alloc (.cells #[.int .i64 0, .slice none 0 0] 30)).alloc (.cells #[.int .i64 0, .slice none 0 0] 30)) w.heap.size (w.heap.size + 1) (fun k => k = w.heap.size + 1) (.slice none 0 0) 0 []) := ⟨by omega, rfl, by have := blk_new (w.alloc (.cells #[.int .i64 0, .slice none 0 0] 30)) (.cells #[.int .i64 0, .slice none 0 0] 30); simpa using this, Kd.R_nil _ _ _ _ _, by simp⟩
  generalize hwa : (w.alloc (.cells #[.int .i64 0, .slice none 0 0] 30)).alloc (.cells #[.int .i64 0, .slice none 0 0] 30) = wa at HB1 HU1 HV1
  have HSZ := Lib.hid (show wa.heap.size = w.heap.size + 2 by rw [← hwa]; simp)
  have hzl := zig_lt n h0 h1
  have HZ := Lib.hid (putE0 (grp (zig n)) (by have := grp_len10 hzl; omega))
  go_enter Try.func5, Try.ntmps5
  go_wp2_with fail
  refine (uint_calls w wa _ _ _ _ _ n HB1.out HU1.out h0 h1).mono ?_
  rintro r w1 ⟨rfl, v1, hU, hB, hK⟩
  have HU2 := Lib.hid hU.bound; have HB2 := Lib.hid hB
  have HV2 := Lib.hid (HV1.out.kept hK (fun k hk h => by omega))
  have hs1 := hK.1
  clear hU hB hK HV1 HU1 hwa
  go_wp2_with fail
  refine (int_calls w w1 _ _ _ _ _ n HB2.out HV2.out h0 h1).mono ?_
  rintro r w2 ⟨rfl, v2, hV, hB, hK⟩
  rw [HZ.out.1, HZ.out.2] at hV
  have HV3 := Lib.hid hV; have HB3 := Lib.hid hB
  have HU3 := Lib.hid (HU2.out.kept hK (fun k hk h => by have := HSZ.out; omega))
  clear hV hB hK HB2 HV2 HU2 HB1
  go_wp2_with fail
  refine (end_calls w w2 _ _ _ _ _ HB3.out HU3.out).mono ?_
  rintro r w3 ⟨va, rfl, hO, hB, hK⟩
  obtain ⟨La, hLa⟩ : ∃ L, (if uintE 0 [] n = 0 then uintO 0 [] n else []) = L := ⟨_, rfl⟩
  rw [hLa] at hO
  have HLA := Lib.hid hLa
  obtain ⟨Aa, ca, rfl⟩ := Kd.R_slice hO
  have HA4 := Lib.hid (Kd.R_mono (ok' := fun k => k < w3.heap.size) (Kd.R_bound hO) (fun _ h => h.2.2.1)); have HB4 := Lib.hid hB
  have HV4 := Lib.hid (HV3.out.kept hK (fun _ _ => id))
  clear hO hB hK HB3 HV3 HU3 hLa
  go_wp2_with fail
  refine (end_calls w w3 _ _ _ _ _ HB4.out HV4.out).mono ?_
  rintro r w4 ⟨vb, rfl, hO, hB, hK⟩
  rw [if_pos rfl] at hO
  generalize hZ : grp (zig n) = Z at hO
  have HZE := Lib.hid hZ
  obtain ⟨Ab, cb, rfl⟩ := Kd.R_slice hO
  have HC5 := Lib.hid hO; have HB5 := Lib.hid hB
  have HA5 := Lib.hid (Kd.R_kept HA4.out hK (fun _ _ => id))
  have hs34 := hK.1
  clear hO hB hK HB4 HV4 HA4 hZ
  have HT := Lib.hid (show ∀ W, Kept w4 W (fun _ => False) → StrOf (.slice Ab Z.length cb) Z W from fun W hk => StrOf.of_R (Kd.R_kept HC5.out hk (fun _ _ => id)))
  go_upto_region 6 with fail
  refine wp_region_noPanic ?_
  refine wp_region_held_drew (S := fun W => Kept w4 W (fun _ => False)) (by kernel_rfl) ((Kept.refl _ _).drew) (fun hS => ?_)
  (refine wpAnyH_takeG (i := 0) (by kernel_rfl) (by kernel_rfl) (by kernel_rfl) (fun _ _ _ _ _ h => h) hS ?_; intro oi hoi; simp only [List.getElem?_toArray, List.getElem?_cons_succ, List.getElem?_cons_zero] at hoi; cases hoi; refine ⟨?_, by rfl, ?_, ?_⟩; rotate_left; (focus (intro wS hSw; skip; go_simp; (first | done | with_reducible rfl))); (try simp only [Act.put, List.setIfInBounds_toArray, List.set_cons_zero, List.set_cons_succ]))
  (refine wpAnyH_takeG (i := 1) (by kernel_rfl) (by kernel_rfl) (by kernel_rfl) (fun _ _ _ _ _ h => h) hS ?_; intro oi hoi; simp only [List.getElem?_toArray, List.getElem?_cons_succ, List.getElem?_cons_zero] at hoi; cases hoi; refine ⟨?_, by rfl, ?_, ?_⟩; rotate_left; (focus (intro wS hSw; skip; go_simp; (first | done | with_reducible rfl))); (try simp only [Act.put, List.setIfInBounds_toArray, List.set_cons_zero, List.set_cons_succ]))
  (refine wpAnyH_takeG (i := 2) (by kernel_rfl) (by kernel_rfl) (by kernel_rfl) (fun _ _ _ _ _ h => h) hS ?_; intro oi hoi; simp only [List.getElem?_toArray, List.getElem?_cons_succ, List.getElem?_cons_zero] at hoi; cases hoi; refine ⟨?_, by rfl, ?_, ?_⟩; rotate_left; (focus (intro wS hSw; skip; go_simp; (first | done | with_reducible rfl))); (try simp only [Act.put, List.setIfInBounds_toArray, List.set_cons_zero, List.set_cons_succ]))
  (refine wpAnyH_takeG (i := 3) (by kernel_rfl) (by kernel_rfl) (by kernel_rfl) (fun _ _ _ _ _ h => h) hS ?_; intro oi hoi; simp only [List.getElem?_toArray, List.getElem?_cons_succ, List.getElem?_cons_zero] at hoi; cases hoi; refine ⟨?_, by rfl, ?_, ?_⟩; rotate_left; (focus (intro wS hSw; skip; go_simp; (first | done | with_reducible rfl))); (try simp only [Act.put, List.setIfInBounds_toArray, List.set_cons_zero, List.set_cons_succ]))
  (refine wpAnyH_takeG (i := 4) (by kernel_rfl) (by kernel_rfl) (by kernel_rfl) (fun _ _ _ _ _ h => h) hS ?_; intro oi hoi; simp only [List.getElem?_toArray, List.getElem?_cons_succ, List.getElem?_cons_zero] at hoi; cases hoi; refine ⟨?_, by rfl, ?_, ?_⟩; rotate_left; (focus (intro wS hSw; have hc := HT.out wS hSw; unfold StrOf at hc; go_simp; (first | done | with_reducible rfl))); (try simp only [Act.put, List.setIfInBounds_toArray, List.set_cons_zero, List.set_cons_succ]))
  (refine wpAnyH_takeG (i := 5) (by kernel_rfl) (by kernel_rfl) (by kernel_rfl) (fun _ _ _ _ _ h => h) hS ?_; intro oi hoi; simp only [List.getElem?_toArray, List.getElem?_cons_succ, List.getElem?_cons_zero] at hoi; cases hoi; refine ⟨?_, by rfl, ?_, ?_⟩; rotate_left; (focus (intro wS hSw; skip; go_simp; (first | done | with_reducible rfl))); (try simp only [Act.put, List.setIfInBounds_toArray, List.set_cons_zero, List.set_cons_succ]))
  (refine wpAnyH_oneG (i := 6) (by kernel_rfl) ?_; intro oi hoi K' hK; simp only [List.getElem?_toArray, List.getElem?_cons_succ, List.getElem?_cons_zero] at hoi; cases hoi; go_simp; (refine (refFold_calls n _ h0 h1).mono ?_; rintro r w5 ⟨rfl, rfl⟩); go_wp2_with fail)
  (refine hK.out _ _ ?_ (fun hS => ?_); (focus (exact hS)); clear hK K'; (try simp only [Act.put, List.setIfInBounds_toArray, List.set_cons_zero, List.set_cons_succ]))
  (refine wpAnyH_oneG (i := 7) (by kernel_rfl) ?_; intro oi hoi K' hK; simp only [List.getElem?_toArray, List.getElem?_cons_succ, List.getElem?_cons_zero] at hoi; cases hoi; go_simp; (refine (refGroup_calls _ _ (by omega) (by omega) w (Below.drew HB5.out)).mono ?_; rintro r wc ⟨vc, rfl, hO, hB, hKc⟩; rw [Int.toNat_natCast, HZE.out] at hO); go_wp2_with fail)
  have HK6 := Lib.hid (((Kept.refl w4 (fun _ => False)).drew).then_ hKc (fun _ h => h.elim))
  have HOc := Lib.hid hO
  have HB6 := Lib.hid hB
  clear hO hB hKc
  (refine hK.out _ _ ?_ (fun hS => ?_); (focus (exact HK6.out)); clear hK K'; (try simp only [Act.put, List.setIfInBounds_toArray, List.set_cons_zero, List.set_cons_succ]))
  refine wpAnyH_strong (S' := fun W => Kept wc W (fun _ => False)) (fun W h => HK6.out.then_ h (fun _ h => h.elim)) ?_
  clear hS
  have hS : Kept wc wc (fun _ => False) := Kept.refl _ _
  (refine wpAnyH_takeG (i := 8) (by kernel_rfl) (by kernel_rfl) (by kernel_rfl) (fun _ _ _ _ _ h => h) hS ?_; intro oi hoi; simp only [List.getElem?_toArray, List.getElem?_cons_succ, List.getElem?_cons_zero] at hoi; cases hoi; refine ⟨?_, by rfl, ?_, ?_⟩; rotate_left; (focus (intro wS hSw; have hc : StrOf vc Z wS := StrOf.of_R (Kd.R_kept HOc.out hSw (fun _ _ => id)); unfold StrOf at hc; go_simp; (first | done | with_reducible rfl))); (try simp only [Act.put, List.setIfInBounds_toArray, List.set_cons_zero, List.set_cons_succ]))
  (refine wpAnyH_takeG (i := 9) (by kernel_rfl) (by kernel_rfl) (by kernel_rfl) (fun _ _ _ _ _ h => h) hS ?_; intro oi hoi; simp only [List.getElem?_toArray, List.getElem?_cons_succ, List.getElem?_cons_zero] at hoi; cases hoi; refine ⟨?_, by rfl, ?_, ?_⟩; rotate_left; (focus (intro wS hSw; skip; go_simp; (first | done | with_reducible rfl))); (try simp only [Act.put, List.setIfInBounds_toArray, List.set_cons_zero, List.set_cons_succ]))
  (refine wpAnyH_takeG (i := 10) (by kernel_rfl) (by kernel_rfl) (by kernel_rfl) (fun _ _ _ _ _ h => h) hS ?_; intro oi hoi; simp only [List.getElem?_toArray, List.getElem?_cons_succ, List.getElem?_cons_zero] at hoi; cases hoi; refine ⟨?_, by rfl, ?_, ?_⟩; rotate_left; (focus (intro wS hSw; skip; go_simp; (first | done | with_reducible rfl))); (try simp only [Act.put, List.setIfInBounds_toArray, List.set_cons_zero, List.set_cons_succ]))
  refine wpAnyH_done (by kernel_rfl) ?_ _
  refine NoPanic.normal ?_
  clear hS HOc
  have HZN := Lib.hid (show intF Z 0 = .ok (n, Z.length) by have h := intF_grp n h0 h1 [] []; rw [← HZE.out]; simpa using h)
  have hzlen := Lib.hid (show Z.length ≤ 10 by rw [← HZE.out]; exact grp_len10 hzl)
  have HZB := Lib.hid (show ∀ x ∈ Z, 0 ≤ x ∧ x < 256 by rw [← HZE.out]; exact grp_byte _)
  have HA6 := Lib.hid (Kd.R_kept HA5.out HK6.out (fun _ _ => id))
  have HC6 := Lib.hid (Kd.R_kept HC5.out HK6.out (fun _ _ => id))
  have hs4c := HK6.out.1
  clear HT HC5 HB5 HA5
  go_wp2_with fail
  refine (read_calls w wc Z Ab cb HB6.out ((Kd.R_reads' HC6.out).2.2) (by have := hzlen.out; omega) HZB.out).mono ?_
  rintro r w7 ⟨r1, q1, rfl, hge1, hlt1, hR1', hB7, hK7⟩
  obtain ⟨ok1, hR1, hok1⟩ : ∃ ok1 : Nat → Prop, RdAt w7 w.heap.size r1 ok1 q1 0 0 Z ∧ ∀ k, ok1 k → wc.heap.size ≤ k ∧ k < r1 := ⟨_, hR1', fun _ h => h⟩
  have HR1 := Lib.hid hR1; have HB7 := Lib.hid hB7
  have hs47 : w3.heap.size ≤ w7.heap.size := by have := hK7.1; omega
  have HA7 := Lib.hid (Kd.R_kept HA6.out hK7 (fun _ _ => id))
  have u1 : Calls Try.prog 22 #[.pointer (some ⟨r1, 0, none⟩)] w7 (fun r w' => r = .returned (.int .i64 n) ∧ RLeft w w7 r1 ok1 q1 0 Z.length Z w') := by
    have h := rdInt_calls w w7 r1 ok1 q1 0 0 Z hB7 hR1
    rw [HZN.out] at h; exact h
  have HU1 := Lib.hid u1
  clear hR1 hR1' hok1 hB7 hK7 HB6 HK6 HA6 HC6 u1
  go_wp2_with fail
  refine HU1.out.mono ?_
  rintro r w8 ⟨rfl, hL⟩
  have HSA := Lib.hid (show w3.heap.size ≤ w8.heap.size from by have := hL.kept.1; have := hs47; omega)
  have HL := Lib.hid hL.rd; have HB8 := Lib.hid hL.below
  have HA8 := Lib.hid (Kd.R_kept HA7.out hL.kept (fun k hk h => by omega))
  clear HU1 HR1 HB7 HA7 hL
  have hnn : (n != n) = false := by simp
  have hee := Lib.hid (show endE 0 Z.length Z = 0 by unfold endE; simp)
  have HE := Lib.hid (rdEnd_calls w8 _ r1 ok1 q1 0 Z.length Z HL.out)
  rw [hee.out] at HE
  clear HL HZN
  go_wp2_with fail
  refine HE.out.mono ?_
  rintro r w9 ⟨rfl, m, rfl⟩
  have HB9 := Lib.hid (pw_below_drewN HB8.out m)
  have HA9 : Hid ((Kd.int .u8).R 5 (w8.drewN m) w.heap.size (fun k => k < w3.heap.size) (.slice Aa La.length ca) La) := HA8.out
  clear HE HB8 HA8
  by_cases hneg : n < 0
  · have d1 : decide (n < 0) = true := decide_eq_true hneg
    have e1 : uintE 0 [] n = 2 := by unfold uintE; rw [if_pos hneg, if_pos rfl]
    have hla := HLA.out
    rw [e1, if_neg (by decide)] at hla
    subst hla
    rw [e1]
    clear HLA
    go_wp2_with (first | (go_at_call 10; refine (known_calls _).mono ?_; rintro r w10 ⟨rfl, hb⟩; have HBx := Lib.hid (Below.trans' HB9.out hb); clear hb))
    go_ret
    exact ⟨rfl, HBx.out⟩
  · have d1 : decide (n < 0) = false := decide_eq_false hneg
    have hgl := grp_len10 (n := n.toNat) (by omega)
    have e1 : uintE 0 [] n = 0 := by unfold uintE; rw [if_neg hneg, (putE0 _ (by omega)).1]
    have e2 : uintO 0 [] n = grp n.toNat := by unfold uintO; rw [if_neg hneg, (putE0 _ (by omega)).2]
    have hla := HLA.out
    rw [e1, if_pos rfl, e2] at hla
    rw [e1]
    have HUN := Lib.hid (show uintF La 0 = .ok (n, La.length) by have h := uintF_grp n.toNat (by omega) [] []; rw [← hla]; rw [Int.toNat_of_nonneg (by omega)] at h; simpa using h)
    have HLB := Lib.hid (show ∀ x ∈ La, 0 ≤ x ∧ x < 256 by rw [← hla]; exact grp_byte _)
    have hll : La.length ≤ 10 := by rw [← hla]; omega
    have HLE := Lib.hid hla
    have hn0 : 0 ≤ n := by omega
    clear HLA hla e1 e2 hgl hneg
    obtain ⟨wd, hwd⟩ : ∃ wd, wd = w8.drewN m := ⟨_, rfl⟩
    rw [← hwd] at HB9 HA9 ⊢
    have HSA : Hid (w3.heap.size ≤ wd.heap.size) := by rw [hwd]; exact HSA
    have HWD := Lib.hid hwd
    clear hwd
    go_wp2_with fail
    refine (read_calls w wd La Aa ca HB9.out ((Kd.R_reads' HA9.out).2.2) (by omega) HLB.out).mono ?_
    rintro r w10 ⟨r2, q2, rfl, hge2, hlt2, hR2', hB10, hK10⟩
    obtain ⟨ok2, hR2, hok2⟩ : ∃ ok2 : Nat → Prop, RdAt w10 w.heap.size r2 ok2 q2 0 0 La ∧ ∀ k, ok2 k → wd.heap.size ≤ k ∧ k < r2 := ⟨_, hR2', fun _ h => h⟩
    have HR2 := Lib.hid hR2; have HB10 := Lib.hid hB10
    have HA10 := Lib.hid (Kd.R_kept HA9.out hK10 (fun _ _ => id))
    have HT := Lib.hid (show ∀ W, Kept w10 W (fun k => k = r2) → StrOf (.slice Aa La.length ca) La W from fun W hk => StrOf.of_R (Kd.R_kept HA10.out hk (fun k hk h => by have : k < w3.heap.size := hk; have := HSA.out; omega)))
    have hee2 := Lib.hid (show endE 0 La.length La = 0 by unfold endE; simp)
    clear hR2 hR2' hok2 hB10 hK10 HB9 HA9
    go_wp2_with fail
    have hwn : IntKind.u64.wrap n = n := by rw [IntKind.wrap_u64]; omega
    refine wp_region_noPanic ?_
    refine wp_region_held_drew (S := fun W => Kept w10 W (fun k => k = r2)) (by kernel_rfl) ((Kept.refl _ _).drew) (fun hS => ?_)
    (refine wpAnyH_takeG (i := 0) (by kernel_rfl) (by kernel_rfl) (by kernel_rfl) (fun _ _ _ _ _ h => h) hS ?_; intro oi hoi; simp only [List.getElem?_toArray, List.getElem?_cons_succ, List.getElem?_cons_zero] at hoi; cases hoi; refine ⟨?_, by rfl, ?_, ?_⟩; rotate_left; (focus (intro wS hSw; skip; go_simp; (first | done | with_reducible rfl))); (try simp only [Act.put, List.setIfInBounds_toArray, List.set_cons_zero, List.set_cons_succ]))
    (refine wpAnyH_takeG (i := 1) (by kernel_rfl) (by kernel_rfl) (by kernel_rfl) (fun _ _ _ _ _ h => h) hS ?_; intro oi hoi; simp only [List.getElem?_toArray, List.getElem?_cons_succ, List.getElem?_cons_zero] at hoi; cases hoi; refine ⟨?_, by rfl, ?_, ?_⟩; rotate_left; (focus (intro wS hSw; skip; go_simp; (first | done | with_reducible rfl))); (try simp only [Act.put, List.setIfInBounds_toArray, List.set_cons_zero, List.set_cons_succ]))
    (refine wpAnyH_takeG (i := 2) (by kernel_rfl) (by kernel_rfl) (by kernel_rfl) (fun _ _ _ _ _ h => h) hS ?_; intro oi hoi; simp only [List.getElem?_toArray, List.getElem?_cons_succ, List.getElem?_cons_zero] at hoi; cases hoi; refine ⟨?_, by rfl, ?_, ?_⟩; rotate_left; (focus (intro wS hSw; skip; go_simp; (first | done | with_reducible rfl))); (try simp only [Act.put, List.setIfInBounds_toArray, List.set_cons_zero, List.set_cons_succ]))
    (refine wpAnyH_takeG (i := 3) (by kernel_rfl) (by kernel_rfl) (by kernel_rfl) (fun _ _ _ _ _ h => h) hS ?_; intro oi hoi; simp only [List.getElem?_toArray, List.getElem?_cons_succ, List.getElem?_cons_zero] at hoi; cases hoi; refine ⟨?_, by rfl, ?_, ?_⟩; rotate_left; (focus (intro wS hSw; skip; go_simp; (first | done | with_reducible rfl))); (try simp only [Act.put, List.setIfInBounds_toArray, List.set_cons_zero, List.set_cons_succ]))
    (refine wpAnyH_takeG (i := 4) (by kernel_rfl) (by kernel_rfl) (by kernel_rfl) (fun _ _ _ _ _ h => h) hS ?_; intro oi hoi; simp only [List.getElem?_toArray, List.getElem?_cons_succ, List.getElem?_cons_zero] at hoi; cases hoi; refine ⟨?_, by rfl, ?_, ?_⟩; rotate_left; (focus (intro wS hSw; have hc := HT.out wS hSw; unfold StrOf at hc; go_simp; (first | done | with_reducible rfl))); (try simp only [Act.put, List.setIfInBounds_toArray, List.set_cons_zero, List.set_cons_succ]))
    (refine wpAnyH_takeG (i := 5) (by kernel_rfl) (by kernel_rfl) (by kernel_rfl) (fun _ _ _ _ _ h => h) hS ?_; intro oi hoi; simp only [List.getElem?_toArray, List.getElem?_cons_succ, List.getElem?_cons_zero] at hoi; cases hoi; refine ⟨?_, by rfl, ?_, ?_⟩; rotate_left; (focus (intro wS hSw; skip; go_simp; (first | done | with_reducible rfl))); (try simp only [Act.put, List.setIfInBounds_toArray, List.set_cons_zero, List.set_cons_succ]))
    (refine wpAnyH_takeG (i := 6) (by kernel_rfl) (by kernel_rfl) (by kernel_rfl) (fun _ _ _ _ _ h => h) hS ?_; intro oi hoi; simp only [List.getElem?_toArray, List.getElem?_cons_succ, List.getElem?_cons_zero] at hoi; cases hoi; refine ⟨?_, by rfl, ?_, ?_⟩; rotate_left; (focus (intro wS hSw; skip; go_simp; (first | done | with_reducible rfl))); (try simp only [Act.put, List.setIfInBounds_toArray, List.set_cons_zero, List.set_cons_succ]))
    (refine wpAnyH_oneG (i := 7) (by kernel_rfl) ?_; intro oi hoi K' hK; simp only [List.getElem?_toArray, List.getElem?_cons_succ, List.getElem?_cons_zero] at hoi; cases hoi; go_simp; (refine (refGroup_calls _ n hn0 (by clear hwn; omega) w (Below.drew HB10.out)).mono ?_; rintro r w11 ⟨vc, rfl, hO, hB, hKc⟩; rw [HLE.out] at hO); go_wp2_with fail)
    have HK11 := Lib.hid (((Kept.refl w10 (fun _ => False)).drew).then_ hKc (fun _ h => h.elim))
    have HO11 := Lib.hid hO
    have hu : Calls Try.prog 24 #[.pointer (some ⟨r2, 0, none⟩)] w11 (fun r w' => r = .returned (.int .i64 n) ∧ RLeft w w11 r2 ok2 q2 0 La.length La w') := by
      have h := rdUint_calls w w11 r2 ok2 q2 0 0 La hB (HR2.out.kept HK11.out id (fun _ _ => id)); rw [HUN.out] at h; exact h
    have HU2 := Lib.hid hu
    have HW11 := Lib.hid (show w10.heap.size ≤ w11.heap.size from HK11.out.1)
    clear hO hB hKc hu
    (refine hK.out _ _ ?_ (fun hS => ?_); (focus (exact HK11.out.mono (fun _ h => h.elim))); clear hK K'; (try simp only [Act.put, List.setIfInBounds_toArray, List.set_cons_zero, List.set_cons_succ]))
    refine wpAnyH_strong (S' := fun W => Kept w11 W (fun k => k = r2)) (fun W h => ?_) ?_
    · exact HK11.out.mono (fun _ h => h.elim) |>.then_ h (fun _ h => .inl h)
    clear hS
    have hS : Kept w11 w11 (fun k => k = r2) := Kept.refl _ _
    (refine wpAnyH_takeG (i := 8) (by kernel_rfl) (by kernel_rfl) (by kernel_rfl) (fun _ _ _ _ _ h => h) hS ?_; intro oi hoi; simp only [List.getElem?_toArray, List.getElem?_cons_succ, List.getElem?_cons_zero] at hoi; cases hoi; refine ⟨?_, by rfl, ?_, ?_⟩; rotate_left; (focus (intro wS hSw; have hc : StrOf vc La wS := StrOf.of_R (Kd.R_kept HO11.out hSw (fun k hk h => by have := hk; have := HW11.out; have : w10.heap.size ≤ k := hk; omega)); unfold StrOf at hc; go_simp; (first | done | with_reducible rfl))); (try simp only [Act.put, List.setIfInBounds_toArray, List.set_cons_zero, List.set_cons_succ]))
    (refine wpAnyH_takeG (i := 9) (by kernel_rfl) (by kernel_rfl) (by kernel_rfl) (fun _ _ _ _ _ h => h) hS ?_; intro oi hoi; simp only [List.getElem?_toArray, List.getElem?_cons_succ, List.getElem?_cons_zero] at hoi; cases hoi; refine ⟨?_, by rfl, ?_, ?_⟩; rotate_left; (focus (intro wS hSw; skip; go_simp; (first | done | with_reducible rfl))); (try simp only [Act.put, List.setIfInBounds_toArray, List.set_cons_zero, List.set_cons_succ]))
    (refine wpAnyH_takeG (i := 10) (by kernel_rfl) (by kernel_rfl) (by kernel_rfl) (fun _ _ _ _ _ h => h) hS ?_; intro oi hoi; simp only [List.getElem?_toArray, List.getElem?_cons_succ, List.getElem?_cons_zero] at hoi; cases hoi; refine ⟨?_, by rfl, ?_, ?_⟩; rotate_left; (focus (intro wS hSw; skip; go_simp; (first | done | with_reducible rfl))); (try simp only [Act.put, List.setIfInBounds_toArray, List.set_cons_zero, List.set_cons_succ]))
    (refine wpAnyH_takeG (i := 11) (by kernel_rfl) (by kernel_rfl) (by kernel_rfl) (fun _ _ _ _ _ h => h) hS ?_; intro oi hoi; simp only [List.getElem?_toArray, List.getElem?_cons_succ, List.getElem?_cons_zero] at hoi; cases hoi; refine ⟨?_, by rfl, ?_, ?_⟩; rotate_left; (focus (intro wS hSw; skip; go_simp; (first | done | with_reducible rfl))); (try simp only [Act.put, List.setIfInBounds_toArray, List.set_cons_zero, List.set_cons_succ]))
    (refine wpAnyH_takeG (i := 12) (by kernel_rfl) (by kernel_rfl) (by kernel_rfl) (fun _ _ _ _ _ h => h) hS ?_; intro oi hoi; simp only [List.getElem?_toArray, List.getElem?_cons_succ, List.getElem?_cons_zero] at hoi; cases hoi; refine ⟨?_, by rfl, ?_, ?_⟩; rotate_left; (focus (intro wS hSw; skip; go_simp; (first | done | with_reducible rfl))); (try simp only [Act.put, List.setIfInBounds_toArray, List.set_cons_zero, List.set_cons_succ]))
    (refine wpAnyH_takeG (i := 13) (by kernel_rfl) (by kernel_rfl) (by kernel_rfl) (fun _ _ _ _ _ h => h) hS ?_; intro oi hoi; simp only [List.getElem?_toArray, List.getElem?_cons_succ, List.getElem?_cons_zero] at hoi; cases hoi; refine ⟨?_, by rfl, ?_, ?_⟩; rotate_left; (focus (intro wS hSw; skip; go_simp; (first | done | with_reducible rfl))); (try simp only [Act.put, List.setIfInBounds_toArray, List.set_cons_zero, List.set_cons_succ]))
    (refine wpAnyH_takeG (i := 14) (by kernel_rfl) (by kernel_rfl) (by kernel_rfl) (fun _ _ _ _ _ h => h) hS ?_; intro oi hoi; simp only [List.getElem?_toArray, List.getElem?_cons_succ, List.getElem?_cons_zero] at hoi; cases hoi; refine ⟨?_, by rfl, ?_, ?_⟩; rotate_left; (focus (intro wS hSw; skip; go_simp; (first | done | with_reducible rfl))); (try simp only [Act.put, List.setIfInBounds_toArray, List.set_cons_zero, List.set_cons_succ]))
    (refine wpAnyH_takeG (i := 15) (by kernel_rfl) (by kernel_rfl) (by kernel_rfl) (fun _ _ _ _ _ h => h) hS ?_; intro oi hoi; simp only [List.getElem?_toArray, List.getElem?_cons_succ, List.getElem?_cons_zero] at hoi; cases hoi; refine ⟨?_, by rfl, ?_, ?_⟩; rotate_left; (focus (intro wS hSw; skip; go_simp; (first | done | with_reducible rfl))); (try simp only [Act.put, List.setIfInBounds_toArray, List.set_cons_zero, List.set_cons_succ]))
    (refine wpAnyH_takeG (i := 16) (by kernel_rfl) (by kernel_rfl) (by kernel_rfl) (fun _ _ _ _ _ h => h) hS ?_; intro oi hoi; simp only [List.getElem?_toArray, List.getElem?_cons_succ, List.getElem?_cons_zero] at hoi; cases hoi; refine ⟨?_, by rfl, ?_, ?_⟩; rotate_left; (focus (intro wS hSw; skip; go_simp; (first | done | with_reducible rfl))); (try simp only [Act.put, List.setIfInBounds_toArray, List.set_cons_zero, List.set_cons_succ]))
    (refine wpAnyH_takeG (i := 18) (by kernel_rfl) (by kernel_rfl) (by kernel_rfl) (fun _ _ _ _ _ h => h) hS ?_; intro oi hoi; simp only [List.getElem?_toArray, List.getElem?_cons_succ, List.getElem?_cons_zero] at hoi; cases hoi; refine ⟨?_, by rfl, ?_, ?_⟩; rotate_left; (focus (intro wS hSw; skip; go_simp; (first | done | with_reducible rfl))); (try simp only [Act.put, List.setIfInBounds_toArray, List.set_cons_zero, List.set_cons_succ]))
    (refine wpAnyH_oneG (i := 17) (by kernel_rfl) ?_; intro oi hoi K' hK; simp only [List.getElem?_toArray, List.getElem?_cons_succ, List.getElem?_cons_zero] at hoi; cases hoi; go_simp; (refine HU2.out.mono ?_; rintro r w12 ⟨rfl, hL⟩); go_wp2_with fail)
    have hd := rdEnd_calls w12 _ r2 ok2 q2 0 La.length La hL.rd
    rw [hee2.out] at hd
    have HD2 := Lib.hid hd
    have HB12 := Lib.hid hL.below
    have HK12 := Lib.hid hL.kept
    clear hL hd
    (refine hK.out _ _ ?_ (fun hS => ?_); (focus (exact HK12.out)); clear hK K'; (try simp only [Act.put, List.setIfInBounds_toArray, List.set_cons_zero, List.set_cons_succ]))
    (refine wpAnyH_takeG (i := 19) (by kernel_rfl) (by kernel_rfl) (by kernel_rfl) (fun _ _ _ _ _ h => h) hS ?_; intro oi hoi; simp only [List.getElem?_toArray, List.getElem?_cons_succ, List.getElem?_cons_zero] at hoi; cases hoi; refine ⟨?_, by rfl, ?_, ?_⟩; rotate_left; (focus (intro wS hSw; skip; go_simp; (first | done | with_reducible rfl))); (try simp only [Act.put, List.setIfInBounds_toArray, List.set_cons_zero, List.set_cons_succ]))
    (refine wpAnyH_takeG (i := 20) (by kernel_rfl) (by kernel_rfl) (by kernel_rfl) (fun _ _ _ _ _ h => h) hS ?_; intro oi hoi; simp only [List.getElem?_toArray, List.getElem?_cons_succ, List.getElem?_cons_zero] at hoi; cases hoi; refine ⟨?_, by rfl, ?_, ?_⟩; rotate_left; (focus (intro wS hSw; skip; go_simp; (first | done | with_reducible rfl))); (try simp only [Act.put, List.setIfInBounds_toArray, List.set_cons_zero, List.set_cons_succ]))
    (refine wpAnyH_takeG (i := 21) (by kernel_rfl) (by kernel_rfl) (by kernel_rfl) (fun _ _ _ _ _ h => h) hS ?_; intro oi hoi; simp only [List.getElem?_toArray, List.getElem?_cons_succ, List.getElem?_cons_zero] at hoi; cases hoi; refine ⟨?_, by rfl, ?_, ?_⟩; rotate_left; (focus (intro wS hSw; skip; go_simp; (first | done | with_reducible rfl))); (try simp only [Act.put, List.setIfInBounds_toArray, List.set_cons_zero, List.set_cons_succ]))
    (refine wpAnyH_takeG (i := 22) (by kernel_rfl) (by kernel_rfl) (by kernel_rfl) (fun _ _ _ _ _ h => h) hS ?_; intro oi hoi; simp only [List.getElem?_toArray, List.getElem?_cons_succ, List.getElem?_cons_zero] at hoi; cases hoi; refine ⟨?_, by rfl, ?_, ?_⟩; rotate_left; (focus (intro wS hSw; skip; go_simp; (first | done | with_reducible rfl))); (try simp only [Act.put, List.setIfInBounds_toArray, List.set_cons_zero, List.set_cons_succ]))
    (refine wpAnyH_oneG (i := 23) (by kernel_rfl) ?_; intro oi hoi K' hK; simp only [List.getElem?_toArray, List.getElem?_cons_succ, List.getElem?_cons_zero] at hoi; cases hoi; go_simp; (refine HD2.out.mono ?_; rintro r w13 ⟨rfl, m2, rfl⟩); go_wp2_with fail)
    (refine hK.out _ _ ?_ (fun hS => ?_); (focus (exact HK12.out.drewN m2)); clear hK K'; (try simp only [Act.put, List.setIfInBounds_toArray, List.set_cons_zero, List.set_cons_succ]))
    (refine wpAnyH_takeG (i := 24) (by kernel_rfl) (by kernel_rfl) (by kernel_rfl) (fun _ _ _ _ _ h => h) hS ?_; intro oi hoi; simp only [List.getElem?_toArray, List.getElem?_cons_succ, List.getElem?_cons_zero] at hoi; cases hoi; refine ⟨?_, by rfl, ?_, ?_⟩; rotate_left; (focus (intro wS hSw; skip; go_simp; (first | done | with_reducible rfl))); (try simp only [Act.put, List.setIfInBounds_toArray, List.set_cons_zero, List.set_cons_succ]))
    (refine wpAnyH_takeG (i := 25) (by kernel_rfl) (by kernel_rfl) (by kernel_rfl) (fun _ _ _ _ _ h => h) hS ?_; intro oi hoi; simp only [List.getElem?_toArray, List.getElem?_cons_succ, List.getElem?_cons_zero] at hoi; cases hoi; refine ⟨?_, by rfl, ?_, ?_⟩; rotate_left; (focus (intro wS hSw; skip; go_simp; (first | done | with_reducible rfl))); (try simp only [Act.put, List.setIfInBounds_toArray, List.set_cons_zero, List.set_cons_succ]))
    (refine wpAnyH_takeG (i := 26) (by kernel_rfl) (by kernel_rfl) (by kernel_rfl) (fun _ _ _ _ _ h => h) hS ?_; intro oi hoi; simp only [List.getElem?_toArray, List.getElem?_cons_succ, List.getElem?_cons_zero] at hoi; cases hoi; refine ⟨?_, by rfl, ?_, ?_⟩; rotate_left; (focus (intro wS hSw; skip; go_simp; (first | done | with_reducible rfl))); (try simp only [Act.put, List.setIfInBounds_toArray, List.set_cons_zero, List.set_cons_succ]))
    (refine wpAnyH_oneG (i := 27) (by kernel_rfl) ?_; intro oi hoi K' hK; simp only [List.getElem?_toArray, List.getElem?_cons_succ, List.getElem?_cons_zero] at hoi; cases hoi; go_simp; (refine (known_calls _).mono ?_; rintro r w14 ⟨rfl, hb⟩); go_wp2_with fail)
    have HK14 := Lib.hid ((HK12.out.drewN m2).then_ (Kept.of_below hb (fun _ => False)) (fun _ h => h.elim))
    have HBx := Lib.hid (Below.trans' (pw_below_drewN HB12.out m2) hb)
    clear hb
    (refine hK.out _ _ ?_ (fun hS => ?_); (focus (exact HK14.out)); clear hK K'; (try simp only [Act.put, List.setIfInBounds_toArray, List.set_cons_zero, List.set_cons_succ]))
    (refine wpAnyH_takeG (i := 28) (by kernel_rfl) (by kernel_rfl) (by kernel_rfl) (fun _ _ _ _ _ h => h) hS ?_; intro oi hoi; simp only [List.getElem?_toArray, List.getElem?_cons_succ, List.getElem?_cons_zero] at hoi; cases hoi; refine ⟨?_, by rfl, ?_, ?_⟩; rotate_left; (focus (intro wS hSw; skip; go_simp; (first | done | with_reducible rfl))); (try simp only [Act.put, List.setIfInBounds_toArray, List.set_cons_zero, List.set_cons_succ]))
    (refine wpAnyH_takeG (i := 29) (by kernel_rfl) (by kernel_rfl) (by kernel_rfl) (fun _ _ _ _ _ h => h) hS ?_; intro oi hoi; simp only [List.getElem?_toArray, List.getElem?_cons_succ, List.getElem?_cons_zero] at hoi; cases hoi; refine ⟨?_, by rfl, ?_, ?_⟩; rotate_left; (focus (intro wS hSw; skip; go_simp; (first | done | with_reducible rfl))); (try simp only [Act.put, List.setIfInBounds_toArray, List.set_cons_zero, List.set_cons_succ]))
    refine wpAnyH_done (by kernel_rfl) ?_ _
    refine NoPanic.normal ?_
    go_wp2_with fail
    go_ret
    exact ⟨rfl, HBx.out⟩
theorem numbers_law (n : Int) (w : World) (h : (Lit.int .i64 n).wf = true) : Calls Try.prog 5 #[.int .i64 n] w (fun r w' => r = .returned (.bool true) ∧ Below w.heap.size w w') := numbers_walk n w (wf64 h).1 (wf64 h).2
end Go.Proofs.Ytpbmfdflmmeghaa.Wire
