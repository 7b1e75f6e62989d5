import Derived.Test.YtpbmfdflmmeghaaWy
namespace Go.Proofs.Ytpbmfdflmmeghaa.Wire
open Go.RowKit Go.Proofs.YtpbmfdflmmeghaaW.PrintWords Go.Proofs.YtpbmfdflmmeghaaW.PrintLast Go.Proofs.YtpbmfdflmmeghaaW.PrintMore
set_option linter.unusedVariables false
set_option linter.unusedSimpArgs false


/-- The frame of a kind that is not negative and of a short payload, and what it is taken apart to. -/
def frB (n : Nat) (b : List Int) : List Int := grp n ++ (grp b.length ++ b)

theorem fr_small (n : Nat) (hn : n < 9223372036854775808) (b : List Int) (hb : b.length ≤ 300) : frE n b = 0 ∧ frO n b = frB n b := by
  have h1 := grp_len10 (n := n) (by omega)
  have h2 := grp_len10 (n := b.length) (by omega)
  have hu : uintE 0 [] (n : Int) = 0 ∧ uintO 0 [] (n : Int) = grp n := by
    unfold uintE uintO
    rw [if_neg (by omega), if_neg (by omega), Int.toNat_natCast]
    exact putE0 _ (by omega)
  unfold frE frO frB
  rw [hu.1, hu.2]
  unfold putE putO
  simp only [if_true, List.length_append]
  exact ⟨by rw [if_neg (by omega)], by rw [if_neg (by omega)]⟩

theorem frB_len (n : Nat) (hn : n < 9223372036854775808) (b : List Int) (hb : b.length ≤ 300) : (frB n b).length ≤ 320 := by
  have h1 := grp_len10 (n := n) (by omega)
  have h2 := grp_len10 (n := b.length) (by omega)
  unfold frB; simp only [List.length_append]; omega
theorem frB_byte (n : Nat) (b : List Int) (hb : ∀ x ∈ b, 0 ≤ x ∧ x < 256) : ∀ x ∈ frB n b, 0 ≤ x ∧ x < 256 := by
  intro x hx
  unfold frB at hx
  simp only [List.mem_append] at hx
  rcases hx with h | h | h
  · exact grp_byte _ _ h
  · exact grp_byte _ _ h
  · exact hb _ h

theorem unf_fr (n : Nat) (hn : n < 9223372036854775808) (b : List Int) (hb : b.length ≤ 300) : unfE (frB n b) = 0 ∧ unfK (frB n b) = n ∧ unfL (frB n b) = b := by
  have h1 := uintF_grp n hn [] (grp b.length ++ b)
  have h2 := bytesF_grp b 65536 (by omega) (by omega) (grp n) []
  simp only [List.nil_append, List.length_nil, Nat.zero_add, List.append_nil] at h1 h2
  unfold unfE unfK unfL unfE1 unfP1 frB
  rw [h1]
  simp only [valR, valE, valP, if_true]
  rw [h2]
  simp [valR, valE, valP, endE]
set_option maxRecDepth 100000 in
set_option maxHeartbeats 40000000 in
theorem frames_walk (n : Int) (A : Option Addr) (c : Nat) (l : List Int) (w : World) (h0 : -9223372036854775808 ≤ n) (h1 : n ≤ 9223372036854775807)
    (hC : (Kd.int .u8).C w A l.length l) (hby : ∀ x ∈ l, 0 ≤ x ∧ x < 256) (hm : l.length ≤ 140737488351232) :
    Calls Try.prog 6 #[.int .i64 n, .slice A l.length c] w (fun r w' => r = .returned (.bool true) ∧ Below w.heap.size w w') := by
  by_cases hlo : 300 < l.length
  · have d1 : decide (300 < (l.length : Int)) = true := decide_eq_true (by omega)
    clear hC hby
    go_enter Try.func6, Try.ntmps6
    go_wp2_with (first | (go_at_call 10; refine (known_calls _).mono ?_; rintro r w1 ⟨rfl, hb⟩; have HB := Lib.hid hb; clear hb))
    go_ret
    exact ⟨rfl, HB.out⟩
  have d1 : decide (300 < (l.length : Int)) = false := decide_eq_false (by omega)
  have HC := Lib.hid hC
  have HBY := Lib.hid hby
  have HF := Lib.hid (frame_calls w w n l A c (Below.refl _ _) hC (by omega) h0 h1)
  have HN := Lib.hid (show ∀ m : Nat, n = m → frE n l = 0 ∧ frO n l = frB m l from fun m hm => by subst hm; exact fr_small m (by omega) l (by omega))
  have HE := Lib.hid (show n < 0 → frE n l = 2 from fun hn => by unfold frE uintE putE; simp [hn])
  clear hC hby
  generalize hfe : frE n l = fe at HF HN HE
  generalize hfo : frO n l = fo at HF HN
  clear hfe hfo
  go_enter Try.func6, Try.ntmps6
  go_wp2_with fail
  refine HF.out.mono ?_
  rintro r w1 ⟨va, rfl, hO, hB, hK⟩
  obtain ⟨La, hLa⟩ : ∃ L, (if fe = 0 then fo else []) = L := ⟨_, rfl⟩
  rw [hLa] at hO
  obtain ⟨Aa, ca, rfl⟩ := Kd.R_slice hO
  have HA1 := Lib.hid hO; have HB1 := Lib.hid hB
  have HC1 := Lib.hid (C_none HC.out hK)
  clear hO hB hK HF HC
  by_cases hneg : n < 0
  · have e1 := HE.out hneg
    rw [e1, if_neg (by decide)] at hLa
    subst hLa
    rw [e1]
    have d2 : decide (n < 0) = true := decide_eq_true hneg
    clear HE HN
    go_wp2_with (first | (go_at_call 10; refine (known_calls _).mono ?_; rintro r w2 ⟨rfl, hb⟩; have HBx := Lib.hid (Below.trans' HB1.out hb); clear hb))
    go_ret
    exact ⟨rfl, HBx.out⟩
  have d2 : decide (n < 0) = false := decide_eq_false hneg
  obtain ⟨m, rfl⟩ := Int.eq_ofNat_of_zero_le (show 0 ≤ n by omega)
  obtain ⟨e1, e2⟩ := HN.out m rfl
  rw [e1, if_pos rfl, e2] at hLa
  rw [e1]
  clear HN HE e2
  have hll : La.length ≤ 320 := by rw [← hLa]; exact frB_len m (by omega) l (by omega)
  have HLE := Lib.hid hLa
  have HLB := Lib.hid (show ∀ x ∈ La, 0 ≤ x ∧ x < 256 by rw [← hLa]; exact frB_byte m l HBY.out)
  have hu := unf_fr m (by omega) l (by omega)
  rw [hLa] at hu
  have HU := Lib.hid (unframe_calls w w1 La Aa ca HB1.out ((Kd.R_reads' HA1.out).2.2) (by omega) HLB.out)
  unfold UnfPost at HU
  rw [hu.1, hu.2.1, hu.2.2, if_pos rfl, if_pos rfl] at HU
  clear hLa hu e1
  go_wp2_with fail
  refine HU.out.mono ?_
  rintro r w2 ⟨vp, rfl, hO, hB, hK⟩
  obtain ⟨Ap, cp, rfl⟩ := Kd.R_slice hO
  have HB2 := Lib.hid hB
  have HP2 := Lib.hid hO
  have HA2 := Lib.hid (Kd.R_kept HA1.out hK (fun _ _ => id))
  have HC2 := Lib.hid (C_none HC1.out hK)
  clear hO hB hK HA1 HC1 HB1 HU
  go_wp2_with fail
  have hs : strOfNums (grp m) ++ strOfNums (grp l.length ++ l) = strOfNums La := by rw [frames_add, ← HLE.out]; rfl
  have hwn : IntKind.u64.wrap (m : Int) = m := by rw [IntKind.wrap_u64]; omega
  have hgl := grp_len10 (n := m) (by omega)
  have hgk := grp_len10 (n := l.length) (by omega)
  have hz : ¬ (9223372036854775807 < (strOfNums (grp m)).size + (strOfNums (grp l.length ++ l)).size) := by rw [strOfNums_size, strOfNums_size, List.length_append]; omega
  have HT := Lib.hid (show ∀ W, Kept w2 W (fun _ => False) → StrOf (.slice Aa La.length ca) La W ∧ StrOf (.slice Ap l.length cp) l W ∧ StrOf (.slice A l.length c) l W from fun W hk => ⟨StrOf.of_R (Kd.R_kept HA2.out hk (fun _ _ => id)), StrOf.of_R (Kd.R_kept HP2.out hk (fun _ _ => id)), Kd.C_string Try.underlying28 Try.underlying5 Try.underlying9 (C_none HC2.out hk)⟩)
  clear hgl hgk
  --SLOW<
  refine wp_region_noPanic ?_
  refine wp_region_held_drew (S := fun W => Kept w2 W (fun _ => False)) (by kernel_rfl) ((Kept.refl _ _).drew) (fun hS => ?_)
  (refine wpAnyH_takeG (i := 0) (by kernel_rfl) (by kernel_rfl) (by kernel_rfl) (fun _ _ _ _ _ h => h) hS ?_; intro oi hoi; simp only [List.getElem?_toArray, List.getElem?_cons_succ, List.getElem?_cons_zero] at hoi; cases hoi; refine ⟨?_, by rfl, ?_, ?_⟩; rotate_left; (focus (intro wS hSw; skip; go_simp; (first | done | with_reducible rfl))); (try simp only [Act.put, List.setIfInBounds_toArray, List.set_cons_zero, List.set_cons_succ]))
  (refine wpAnyH_takeG (i := 1) (by kernel_rfl) (by kernel_rfl) (by kernel_rfl) (fun _ _ _ _ _ h => h) hS ?_; intro oi hoi; simp only [List.getElem?_toArray, List.getElem?_cons_succ, List.getElem?_cons_zero] at hoi; cases hoi; refine ⟨?_, by rfl, ?_, ?_⟩; rotate_left; (focus (intro wS hSw; skip; go_simp; (first | done | with_reducible rfl))); (try simp only [Act.put, List.setIfInBounds_toArray, List.set_cons_zero, List.set_cons_succ]))
  (refine wpAnyH_takeG (i := 2) (by kernel_rfl) (by kernel_rfl) (by kernel_rfl) (fun _ _ _ _ _ h => h) hS ?_; intro oi hoi; simp only [List.getElem?_toArray, List.getElem?_cons_succ, List.getElem?_cons_zero] at hoi; cases hoi; refine ⟨?_, by rfl, ?_, ?_⟩; rotate_left; (focus (intro wS hSw; skip; go_simp; (first | done | with_reducible rfl))); (try simp only [Act.put, List.setIfInBounds_toArray, List.set_cons_zero, List.set_cons_succ]))
  (refine wpAnyH_takeG (i := 3) (by kernel_rfl) (by kernel_rfl) (by kernel_rfl) (fun _ _ _ _ _ h => h) hS ?_; intro oi hoi; simp only [List.getElem?_toArray, List.getElem?_cons_succ, List.getElem?_cons_zero] at hoi; cases hoi; refine ⟨?_, by rfl, ?_, ?_⟩; rotate_left; (focus (intro wS hSw; skip; go_simp; (first | done | with_reducible rfl))); (try simp only [Act.put, List.setIfInBounds_toArray, List.set_cons_zero, List.set_cons_succ]))
  (refine wpAnyH_takeG (i := 4) (by kernel_rfl) (by kernel_rfl) (by kernel_rfl) (fun _ _ _ _ _ h => h) hS ?_; intro oi hoi; simp only [List.getElem?_toArray, List.getElem?_cons_succ, List.getElem?_cons_zero] at hoi; cases hoi; refine ⟨?_, by rfl, ?_, ?_⟩; rotate_left; (focus (intro wS hSw; have hc := (HT.out wS hSw).1; unfold StrOf at hc; go_simp; (first | done | with_reducible rfl))); (try simp only [Act.put, List.setIfInBounds_toArray, List.set_cons_zero, List.set_cons_succ]))
  (refine wpAnyH_takeG (i := 5) (by kernel_rfl) (by kernel_rfl) (by kernel_rfl) (fun _ _ _ _ _ h => h) hS ?_; intro oi hoi; simp only [List.getElem?_toArray, List.getElem?_cons_succ, List.getElem?_cons_zero] at hoi; cases hoi; refine ⟨?_, by rfl, ?_, ?_⟩; rotate_left; (focus (intro wS hSw; skip; go_simp; (first | done | with_reducible rfl))); (try simp only [Act.put, List.setIfInBounds_toArray, List.set_cons_zero, List.set_cons_succ]))
  (refine wpAnyH_takeG (i := 6) (by kernel_rfl) (by kernel_rfl) (by kernel_rfl) (fun _ _ _ _ _ h => h) hS ?_; intro oi hoi; simp only [List.getElem?_toArray, List.getElem?_cons_succ, List.getElem?_cons_zero] at hoi; cases hoi; refine ⟨?_, by rfl, ?_, ?_⟩; rotate_left; (focus (intro wS hSw; skip; go_simp; (first | done | with_reducible rfl))); (try simp only [Act.put, List.setIfInBounds_toArray, List.set_cons_zero, List.set_cons_succ]))
  (refine wpAnyH_takeG (i := 9) (by kernel_rfl) (by kernel_rfl) (by kernel_rfl) (fun _ _ _ _ _ h => h) hS ?_; intro oi hoi; simp only [List.getElem?_toArray, List.getElem?_cons_succ, List.getElem?_cons_zero] at hoi; cases hoi; refine ⟨?_, by rfl, ?_, ?_⟩; rotate_left; (focus (intro wS hSw; skip; go_simp; (first | done | with_reducible rfl))); (try simp only [Act.put, List.setIfInBounds_toArray, List.set_cons_zero, List.set_cons_succ]))
  (refine wpAnyH_oneG (i := 7) (by kernel_rfl) ?_; intro oi hoi K' hK; simp only [List.getElem?_toArray, List.getElem?_cons_succ, List.getElem?_cons_zero] at hoi; cases hoi; go_simp; (refine (refGroup_calls _ m (by omega) (by clear hwn; omega) w (Below.drew HB2.out)).mono ?_; rintro r w3 ⟨vc, rfl, hO, hB, hK3⟩; rw [Int.toNat_natCast] at hO); go_wp2_with fail)
  have HK3 := Lib.hid (((Kept.refl w2 (fun _ => False)).drew).then_ hK3 (fun _ h => h.elim))
  have HO3 := Lib.hid hO
  have HB3 := Lib.hid hB
  clear hO hB hK3
  (refine hK.out _ _ ?_ (fun hS => ?_); (focus (exact HK3.out)); clear hK K'; (try simp only [Act.put, List.setIfInBounds_toArray, List.set_cons_zero, List.set_cons_succ]))
  refine wpAnyH_strong (S' := fun W => Kept w3 W (fun _ => False)) (fun W h => HK3.out.then_ h (fun _ h => h.elim)) ?_
  clear hS
  have hS : Kept w3 w3 (fun _ => False) := Kept.refl _ _
  (refine wpAnyH_takeG (i := 8) (by kernel_rfl) (by kernel_rfl) (by kernel_rfl) (fun _ _ _ _ _ h => h) hS ?_; intro oi hoi; simp only [List.getElem?_toArray, List.getElem?_cons_succ, List.getElem?_cons_zero] at hoi; cases hoi; refine ⟨?_, by rfl, ?_, ?_⟩; rotate_left; (focus (intro wS hSw; have hc : StrOf vc (grp m) wS := StrOf.of_R (Kd.R_kept HO3.out hSw (fun _ _ => id)); unfold StrOf at hc; go_simp; (first | done | with_reducible rfl))); (try simp only [Act.put, List.setIfInBounds_toArray, List.set_cons_zero, List.set_cons_succ]))
  (refine wpAnyH_oneG (i := 10) (by kernel_rfl) ?_; intro oi hoi K' hK; simp only [List.getElem?_toArray, List.getElem?_cons_succ, List.getElem?_cons_zero] at hoi; cases hoi; go_simp; (refine (refString_calls w w3 l A c HB3.out (C_none HC2.out HK3.out) (by omega)).mono ?_; rintro r w4 ⟨vd, rfl, hO, hB, hK4⟩); go_wp2_with fail)
  have HK4 := Lib.hid hK4
  have HO4 := Lib.hid hO
  have HB4 := Lib.hid hB
  clear hO hB hK4
  (refine hK.out _ _ ?_ (fun hS => ?_); (focus (exact HK4.out)); clear hK K'; (try simp only [Act.put, List.setIfInBounds_toArray, List.set_cons_zero, List.set_cons_succ]))
  refine wpAnyH_strong (S' := fun W => Kept w4 W (fun _ => False)) (fun W h => HK4.out.then_ h (fun _ h => h.elim)) ?_
  clear hS
  have hS : Kept w4 w4 (fun _ => False) := Kept.refl _ _
  (refine wpAnyH_takeG (i := 11) (by kernel_rfl) (by kernel_rfl) (by kernel_rfl) (fun _ _ _ _ _ h => h) hS ?_; intro oi hoi; simp only [List.getElem?_toArray, List.getElem?_cons_succ, List.getElem?_cons_zero] at hoi; cases hoi; refine ⟨?_, by rfl, ?_, ?_⟩; rotate_left; (focus (intro wS hSw; have hc : StrOf vd (grp l.length ++ l) wS := StrOf.of_R (Kd.R_kept HO4.out hSw (fun _ _ => id)); unfold StrOf at hc; go_simp; (first | done | with_reducible rfl))); (try simp only [Act.put, List.setIfInBounds_toArray, List.set_cons_zero, List.set_cons_succ]))
  (refine wpAnyH_takeG (i := 12) (by kernel_rfl) (by kernel_rfl) (by kernel_rfl) (fun _ _ _ _ _ h => h) hS ?_; intro oi hoi; simp only [List.getElem?_toArray, List.getElem?_cons_succ, List.getElem?_cons_zero] at hoi; cases hoi; refine ⟨?_, by rfl, ?_, ?_⟩; rotate_left; (focus (intro wS hSw; skip; go_simp; (first | done | with_reducible rfl))); (try simp only [Act.put, List.setIfInBounds_toArray, List.set_cons_zero, List.set_cons_succ]))
  (refine wpAnyH_takeG (i := 13) (by kernel_rfl) (by kernel_rfl) (by kernel_rfl) (fun _ _ _ _ _ h => h) hS ?_; intro oi hoi; simp only [List.getElem?_toArray, List.getElem?_cons_succ, List.getElem?_cons_zero] at hoi; cases hoi; refine ⟨?_, by rfl, ?_, ?_⟩; rotate_left; (focus (intro wS hSw; skip; go_simp; (first | done | with_reducible rfl))); (try simp only [Act.put, List.setIfInBounds_toArray, List.set_cons_zero, List.set_cons_succ]))
  (refine wpAnyH_takeG (i := 14) (by kernel_rfl) (by kernel_rfl) (by kernel_rfl) (fun _ _ _ _ _ h => h) hS ?_; intro oi hoi; simp only [List.getElem?_toArray, List.getElem?_cons_succ, List.getElem?_cons_zero] at hoi; cases hoi; refine ⟨?_, by rfl, ?_, ?_⟩; rotate_left; (focus (intro wS hSw; skip; go_simp; (first | done | with_reducible rfl))); (try simp only [Act.put, List.setIfInBounds_toArray, List.set_cons_zero, List.set_cons_succ]))
  (refine wpAnyH_takeG (i := 15) (by kernel_rfl) (by kernel_rfl) (by kernel_rfl) (fun _ _ _ _ _ h => h) hS ?_; intro oi hoi; simp only [List.getElem?_toArray, List.getElem?_cons_succ, List.getElem?_cons_zero] at hoi; cases hoi; refine ⟨?_, by rfl, ?_, ?_⟩; rotate_left; (focus (intro wS hSw; skip; go_simp; (first | done | with_reducible rfl))); (try simp only [Act.put, List.setIfInBounds_toArray, List.set_cons_zero, List.set_cons_succ]))
  (refine wpAnyH_takeG (i := 16) (by kernel_rfl) (by kernel_rfl) (by kernel_rfl) (fun _ _ _ _ _ h => h) hS ?_; intro oi hoi; simp only [List.getElem?_toArray, List.getElem?_cons_succ, List.getElem?_cons_zero] at hoi; cases hoi; refine ⟨?_, by rfl, ?_, ?_⟩; rotate_left; (focus (intro wS hSw; skip; go_simp; (first | done | with_reducible rfl))); (try simp only [Act.put, List.setIfInBounds_toArray, List.set_cons_zero, List.set_cons_succ]))
  (refine wpAnyH_takeG (i := 17) (by kernel_rfl) (by kernel_rfl) (by kernel_rfl) (fun _ _ _ _ _ h => h) hS ?_; intro oi hoi; simp only [List.getElem?_toArray, List.getElem?_cons_succ, List.getElem?_cons_zero] at hoi; cases hoi; refine ⟨?_, by rfl, ?_, ?_⟩; rotate_left; (focus (intro wS hSw; skip; go_simp; (first | done | with_reducible rfl))); (try simp only [Act.put, List.setIfInBounds_toArray, List.set_cons_zero, List.set_cons_succ]))
  (refine wpAnyH_takeG (i := 18) (by kernel_rfl) (by kernel_rfl) (by kernel_rfl) (fun _ _ _ _ _ h => h) hS ?_; intro oi hoi; simp only [List.getElem?_toArray, List.getElem?_cons_succ, List.getElem?_cons_zero] at hoi; cases hoi; refine ⟨?_, by rfl, ?_, ?_⟩; rotate_left; (focus (intro wS hSw; skip; go_simp; (first | done | with_reducible rfl))); (try simp only [Act.put, List.setIfInBounds_toArray, List.set_cons_zero, List.set_cons_succ]))
  (refine wpAnyH_takeG (i := 19) (by kernel_rfl) (by kernel_rfl) (by kernel_rfl) (fun _ _ _ _ _ h => h) hS ?_; intro oi hoi; simp only [List.getElem?_toArray, List.getElem?_cons_succ, List.getElem?_cons_zero] at hoi; cases hoi; refine ⟨?_, by rfl, ?_, ?_⟩; rotate_left; (focus (intro wS hSw; skip; go_simp; (first | done | with_reducible rfl))); (try simp only [Act.put, List.setIfInBounds_toArray, List.set_cons_zero, List.set_cons_succ]))
  (refine wpAnyH_takeG (i := 20) (by kernel_rfl) (by kernel_rfl) (by kernel_rfl) (fun _ _ _ _ _ h => h) hS ?_; intro oi hoi; simp only [List.getElem?_toArray, List.getElem?_cons_succ, List.getElem?_cons_zero] at hoi; cases hoi; refine ⟨?_, by rfl, ?_, ?_⟩; rotate_left; (focus (intro wS hSw; skip; go_simp; (first | done | with_reducible rfl))); (try simp only [Act.put, List.setIfInBounds_toArray, List.set_cons_zero, List.set_cons_succ]))
  (refine wpAnyH_takeG (i := 21) (by kernel_rfl) (by kernel_rfl) (by kernel_rfl) (fun _ _ _ _ _ h => h) hS ?_; intro oi hoi; simp only [List.getElem?_toArray, List.getElem?_cons_succ, List.getElem?_cons_zero] at hoi; cases hoi; refine ⟨?_, by rfl, ?_, ?_⟩; rotate_left; (focus (intro wS hSw; skip; go_simp; (first | done | with_reducible rfl))); (try simp only [Act.put, List.setIfInBounds_toArray, List.set_cons_zero, List.set_cons_succ]))
  (refine wpAnyH_takeG (i := 22) (by kernel_rfl) (by kernel_rfl) (by kernel_rfl) (fun _ _ _ _ _ h => h) hS ?_; intro oi hoi; simp only [List.getElem?_toArray, List.getElem?_cons_succ, List.getElem?_cons_zero] at hoi; cases hoi; refine ⟨?_, by rfl, ?_, ?_⟩; rotate_left; (focus (intro wS hSw; skip; go_simp; (first | done | with_reducible rfl))); (try simp only [Act.put, List.setIfInBounds_toArray, List.set_cons_zero, List.set_cons_succ]))
  (refine wpAnyH_takeG (i := 23) (by kernel_rfl) (by kernel_rfl) (by kernel_rfl) (fun _ _ _ _ _ h => h) hS ?_; intro oi hoi; simp only [List.getElem?_toArray, List.getElem?_cons_succ, List.getElem?_cons_zero] at hoi; cases hoi; refine ⟨?_, by rfl, ?_, ?_⟩; rotate_left; (focus (intro wS hSw; skip; go_simp; (first | done | with_reducible rfl))); (try simp only [Act.put, List.setIfInBounds_toArray, List.set_cons_zero, List.set_cons_succ]))
  (refine wpAnyH_takeG (i := 24) (by kernel_rfl) (by kernel_rfl) (by kernel_rfl) (fun _ _ _ _ _ h => h) hS ?_; intro oi hoi; simp only [List.getElem?_toArray, List.getElem?_cons_succ, List.getElem?_cons_zero] at hoi; cases hoi; refine ⟨?_, by rfl, ?_, ?_⟩; rotate_left; (focus (intro wS hSw; skip; go_simp; (first | done | with_reducible rfl))); (try simp only [Act.put, List.setIfInBounds_toArray, List.set_cons_zero, List.set_cons_succ]))
  (refine wpAnyH_takeG (i := 25) (by kernel_rfl) (by kernel_rfl) (by kernel_rfl) (fun _ _ _ _ _ h => h) hS ?_; intro oi hoi; simp only [List.getElem?_toArray, List.getElem?_cons_succ, List.getElem?_cons_zero] at hoi; cases hoi; refine ⟨?_, by rfl, ?_, ?_⟩; rotate_left; (focus (intro wS hSw; skip; go_simp; (first | done | with_reducible rfl))); (try simp only [Act.put, List.setIfInBounds_toArray, List.set_cons_zero, List.set_cons_succ]))
  (refine wpAnyH_takeG (i := 26) (by kernel_rfl) (by kernel_rfl) (by kernel_rfl) (fun _ _ _ _ _ h => h) hS ?_; intro oi hoi; simp only [List.getElem?_toArray, List.getElem?_cons_succ, List.getElem?_cons_zero] at hoi; cases hoi; refine ⟨?_, by rfl, ?_, ?_⟩; rotate_left; (focus (intro wS hSw; have hc := (HT.out wS (HK3.out.then_ (HK4.out.then_ hSw (fun _ h => h.elim)) (fun _ h => h.elim))).2.1; unfold StrOf at hc; go_simp; (first | done | with_reducible rfl))); (try simp only [Act.put, List.setIfInBounds_toArray, List.set_cons_zero, List.set_cons_succ]))
  (refine wpAnyH_takeG (i := 27) (by kernel_rfl) (by kernel_rfl) (by kernel_rfl) (fun _ _ _ _ _ h => h) hS ?_; intro oi hoi; simp only [List.getElem?_toArray, List.getElem?_cons_succ, List.getElem?_cons_zero] at hoi; cases hoi; refine ⟨?_, by rfl, ?_, ?_⟩; rotate_left; (focus (intro wS hSw; skip; go_simp; (first | done | with_reducible rfl))); (try simp only [Act.put, List.setIfInBounds_toArray, List.set_cons_zero, List.set_cons_succ]))
  (refine wpAnyH_takeG (i := 28) (by kernel_rfl) (by kernel_rfl) (by kernel_rfl) (fun _ _ _ _ _ h => h) hS ?_; intro oi hoi; simp only [List.getElem?_toArray, List.getElem?_cons_succ, List.getElem?_cons_zero] at hoi; cases hoi; refine ⟨?_, by rfl, ?_, ?_⟩; rotate_left; (focus (intro wS hSw; have hc := (HT.out wS (HK3.out.then_ (HK4.out.then_ hSw (fun _ h => h.elim)) (fun _ h => h.elim))).2.2; unfold StrOf at hc; go_simp; (first | done | with_reducible rfl))); (try simp only [Act.put, List.setIfInBounds_toArray, List.set_cons_zero, List.set_cons_succ]))
  (refine wpAnyH_takeG (i := 29) (by kernel_rfl) (by kernel_rfl) (by kernel_rfl) (fun _ _ _ _ _ h => h) hS ?_; intro oi hoi; simp only [List.getElem?_toArray, List.getElem?_cons_succ, List.getElem?_cons_zero] at hoi; cases hoi; refine ⟨?_, by rfl, ?_, ?_⟩; rotate_left; (focus (intro wS hSw; skip; go_simp; (first | done | with_reducible rfl))); (try simp only [Act.put, List.setIfInBounds_toArray, List.set_cons_zero, List.set_cons_succ]))
  (refine wpAnyH_takeG (i := 30) (by kernel_rfl) (by kernel_rfl) (by kernel_rfl) (fun _ _ _ _ _ h => h) hS ?_; intro oi hoi; simp only [List.getElem?_toArray, List.getElem?_cons_succ, List.getElem?_cons_zero] at hoi; cases hoi; refine ⟨?_, by rfl, ?_, ?_⟩; rotate_left; (focus (intro wS hSw; skip; go_simp; (first | done | with_reducible rfl))); (try simp only [Act.put, List.setIfInBounds_toArray, List.set_cons_zero, List.set_cons_succ]))
  (refine wpAnyH_takeG (i := 31) (by kernel_rfl) (by kernel_rfl) (by kernel_rfl) (fun _ _ _ _ _ h => h) hS ?_; intro oi hoi; simp only [List.getElem?_toArray, List.getElem?_cons_succ, List.getElem?_cons_zero] at hoi; cases hoi; refine ⟨?_, by rfl, ?_, ?_⟩; rotate_left; (focus (intro wS hSw; skip; go_simp; (first | done | with_reducible rfl))); (try simp only [Act.put, List.setIfInBounds_toArray, List.set_cons_zero, List.set_cons_succ]))
  (refine wpAnyH_oneG (i := 32) (by kernel_rfl) ?_; intro oi hoi K' hK; simp only [List.getElem?_toArray, List.getElem?_cons_succ, List.getElem?_cons_zero] at hoi; cases hoi; go_simp; (refine (known_calls _).mono ?_; rintro r w5 ⟨rfl, hb⟩); go_wp2_with fail)
  have HK5 := Lib.hid (Kept.of_below hb (fun _ => False))
  have HBx := Lib.hid (Below.trans' HB4.out hb)
  clear hb
  (refine hK.out _ _ ?_ (fun hS => ?_); (focus (exact HK5.out)); clear hK K'; (try simp only [Act.put, List.setIfInBounds_toArray, List.set_cons_zero, List.set_cons_succ]))
  (refine wpAnyH_takeG (i := 33) (by kernel_rfl) (by kernel_rfl) (by kernel_rfl) (fun _ _ _ _ _ h => h) hS ?_; intro oi hoi; simp only [List.getElem?_toArray, List.getElem?_cons_succ, List.getElem?_cons_zero] at hoi; cases hoi; refine ⟨?_, by rfl, ?_, ?_⟩; rotate_left; (focus (intro wS hSw; skip; go_simp; (first | done | with_reducible rfl))); (try simp only [Act.put, List.setIfInBounds_toArray, List.set_cons_zero, List.set_cons_succ]))
  (refine wpAnyH_takeG (i := 34) (by kernel_rfl) (by kernel_rfl) (by kernel_rfl) (fun _ _ _ _ _ h => h) hS ?_; intro oi hoi; simp only [List.getElem?_toArray, List.getElem?_cons_succ, List.getElem?_cons_zero] at hoi; cases hoi; refine ⟨?_, by rfl, ?_, ?_⟩; rotate_left; (focus (intro wS hSw; skip; go_simp; (first | done | with_reducible rfl))); (try simp only [Act.put, List.setIfInBounds_toArray, List.set_cons_zero, List.set_cons_succ]))
  refine wpAnyH_done (by kernel_rfl) ?_ _
  refine NoPanic.normal ?_
  go_wp2_with fail
  go_ret
  exact ⟨rfl, HBx.out⟩
  --SLOW>
theorem frames_law (n : Int) (A : Option Addr) (c : Nat) (l : List Int) (w : World) (h : (Lit.int .i64 n).wf = true) (hC : (Kd.int .u8).C w A l.length l) (hc : l.length ≤ c) (hm : l.length ≤ maxLen) (y : l.length * 1 ≤ 140737488351232) (hw : ∀ x ∈ l, (Lit.int .u8 x).wf = true) :
    Calls Try.prog 6 #[.int .i64 n, .slice A l.length c] w (fun r w' => r = .returned (.bool true) ∧ Below w.heap.size w w') :=
  frames_walk n A c l w (wf64 h).1 (wf64 h).2 hC (fun x hx => by
    have h := hw x hx
    simp [Lit.wf] at h
    have e1 : IntKind.u8.min = 0 := by rfl
    have e2 : IntKind.u8.max = 255 := by rfl
    omega) (by omega)
end Go.Proofs.Ytpbmfdflmmeghaa.Wire
