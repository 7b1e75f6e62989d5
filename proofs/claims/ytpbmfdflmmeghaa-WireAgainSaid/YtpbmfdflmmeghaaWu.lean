import Derived.Test.YtpbmfdflmmeghaaWr
namespace Go.Proofs.Ytpbmfdflmmeghaa.Wire
open Go.RowKit Go.Proofs.YtpbmfdflmmeghaaW.PrintWords Go.Proofs.YtpbmfdflmmeghaaW.PrintLast Go.Proofs.YtpbmfdflmmeghaaW.PrintMore
set_option linter.unusedVariables false
set_option linter.unusedSimpArgs false

theorem grp3 (n : Nat) (h0 : 65500 ≤ n) (h1 : n ≤ 65600) : (grp n).length = 3 := by
  rw [grp_big (by omega), grp_big (by omega), grp_small (by omega)]; rfl
theorem grp1 : grp 1 = [1] := grp_small (by decide)

/-- What the law's calls come to. -/
structure FullCase (n : Nat) (e1 : Int) (o1 : List Int) (fe : Int) (fo : List Int) (e3 : Int) (o3 : List Int) : Prop where
  case : (65536 < n + 3 ∧ e1 = 7 ∧ fe = 7 ∧ e3 = 7) ∨
    (n + 3 ≤ 65536 ∧ e1 = 0 ∧ o1.length = n + 3 ∧ ((fe = 0 ∧ fo.length = n + 4 ∧ n + 4 ≤ 65536) ∨ (fe = 7 ∧ 65536 < n + 4)) ∧ ((e3 = 0 ∧ o3.length = n + 5 ∧ n + 5 ≤ 65536) ∨ (e3 = 7 ∧ 65536 < n + 5)))

theorem full_case (n : Nat) (h0 : 65500 ≤ n) (h1 : n ≤ 65600) :
    FullCase n (putE 0 [] (grp n ++ List.replicate n 0)) (putO 0 [] (grp n ++ List.replicate n 0)) (frE 1 (List.replicate n 0)) (frO 1 (List.replicate n 0))
      (putE (putE (putE 0 [] (grp n ++ List.replicate n 0)) (putO 0 [] (grp n ++ List.replicate n 0)) (boolB true)) (putO (putE 0 [] (grp n ++ List.replicate n 0)) (putO 0 [] (grp n ++ List.replicate n 0)) (boolB true)) (boolB false))
      (putO (putE (putE 0 [] (grp n ++ List.replicate n 0)) (putO 0 [] (grp n ++ List.replicate n 0)) (boolB true)) (putO (putE 0 [] (grp n ++ List.replicate n 0)) (putO 0 [] (grp n ++ List.replicate n 0)) (boolB true)) (boolB false)) := by
  have hl : (grp n ++ List.replicate n (0 : Int)).length = n + 3 := by rw [List.length_append, grp3 n h0 h1, List.length_replicate]; omega
  have hfr : frE 1 (List.replicate n 0) = (if n + 4 > 65536 then 7 else 0) ∧ (n + 4 ≤ 65536 → (frO 1 (List.replicate n 0)).length = n + 4) := by
    have hu : uintE 0 [] 1 = 0 ∧ uintO 0 [] 1 = [1] := by
      unfold uintE uintO putE putO; rw [show (1 : Int).toNat = 1 from rfl, grp1]; decide
    unfold frE frO
    rw [hu.1, hu.2, List.length_replicate]
    unfold putE putO
    rw [if_pos rfl, if_pos rfl, hl]
    simp only [List.length_singleton]
    constructor
    · by_cases h : n + 4 > 65536
      · rw [if_pos (by omega), if_pos h]
      · rw [if_neg (by omega), if_neg h]
    · intro h; rw [if_neg (by omega), List.length_append, hl]; simp; omega
  generalize hb : grp n ++ List.replicate n (0 : Int) = b at hl ⊢
  generalize hfo : frO 1 (List.replicate n 0) = fo at hfr ⊢
  rw [hfr.1]
  refine ⟨?_⟩
  by_cases c : 65536 < n + 3
  · left
    have e1 : putE 0 [] b = 7 := by unfold putE; simp; omega
    rw [e1]
    refine ⟨c, rfl, by rw [if_pos (by omega)], ?_⟩
    unfold putE; simp
  · right
    have e1 : putE 0 [] b = 0 := by unfold putE; simp; omega
    have o1 : putO 0 [] b = b := by unfold putO; simp; omega
    rw [e1, o1]
    refine ⟨by omega, rfl, hl, ?_, ?_⟩
    · by_cases h : n + 4 > 65536
      · right; rw [if_pos h]; exact ⟨rfl, h⟩
      · left; rw [if_neg h]; exact ⟨rfl, hfr.2 (by omega), by omega⟩
    · by_cases h : b.length + 1 > 65536
      · right
        have e2 : putE 0 b (boolB true) = 7 := by unfold putE boolB; simp; omega
        rw [e2]; refine ⟨?_, by omega⟩; unfold putE; simp
      · have e2 : putE 0 b (boolB true) = 0 := by unfold putE boolB; simp; omega
        have o2 : putO 0 b (boolB true) = b ++ [1] := by unfold putO boolB; simp; omega
        rw [e2, o2]
        by_cases h3 : b.length + 2 > 65536
        · right; refine ⟨?_, by omega⟩; unfold putE boolB; simp; omega
        · left; refine ⟨?_, ?_, by omega⟩
          · unfold putE boolB; simp; omega
          · unfold putO boolB; simp; rw [if_neg (by omega)]; simp; omega
theorem Below.trans' {w0 w w1 : World} (h : Below w0.heap.size w0 w) (k : Below w.heap.size w w1) : Below w0.heap.size w0 w1 := below_then h h.size k

theorem C_made (W : World) (m : Nat) (hm : m ≤ 100000) : (Kd.int .u8).C (W.alloc (.cells (madeCells #[.int .u8 0] m) 5)) (some ⟨W.heap.size, 0, none⟩) (List.replicate m (0 : Int)).length (List.replicate m (0 : Int)) :=
  (Kd.R_reads' (ok := fun k => True) (Kd.R_of_own (h1 := fun _ => rfl) (by have h := own_made' W W.heap.size 5 .u8 m (Nat.le_refl _) (by omega); rw [List.length_replicate] at h ⊢; exact h) (fun _ _ => trivial))).2.2

set_option maxRecDepth 100000 in
set_option maxHeartbeats 4000000 in
theorem full_walk (n : Int) (w : World) (h0 : -9223372036854775808 ≤ n) (h1 : n ≤ 9223372036854775807) :
    Calls Try.prog 4 #[.int .i64 n] w (fun r w' => r = .returned (.bool true) ∧ Below w.heap.size w w') := by
  by_cases hlo : n < 65500
  · have d1 : decide (n < 65500) = true := decide_eq_true hlo
    go_enter Try.func4, Try.ntmps4
    go_wp2_with (first | (go_at_call 10; refine (known_calls _).mono ?_; rintro r w1 ⟨rfl, hb⟩; have HB := Lib.hid hb; clear hb))
    go_ret
    exact ⟨rfl, HB.out⟩
  by_cases hhi : 65600 < n
  · have d1 : decide (n < 65500) = false := decide_eq_false hlo
    have d2 : decide (65600 < n) = true := decide_eq_true hhi
    go_enter Try.func4, Try.ntmps4
    go_wp2_with (first | (go_at_call 10; refine (known_calls _).mono ?_; rintro r w1 ⟨rfl, hb⟩; have HB := Lib.hid hb; clear hb))
    go_ret
    exact ⟨rfl, HB.out⟩
  have d1 : decide (n < 65500) = false := decide_eq_false hlo
  have d2 : decide (65600 < n) = false := decide_eq_false hhi
  obtain ⟨m, rfl⟩ := Int.eq_ofNat_of_zero_le (show 0 ≤ n by omega)
  have hfc := full_case m (by omega) (by omega)
  have hm1 : m ≤ 65600 := by omega
  have hmk : ∀ W : World, (Instr.makeSlice 28 (.int .i64 (m : Int)) (.int .i64 (m : Int))).run Try.prog W = .ok (.slice (some ⟨W.heap.size, 0, none⟩) m m) (W.alloc (.cells (madeCells #[.int .u8 0] m) 5)) := print_make 28 5 .u8 1 Try.underlying28 infoB (by decide) m (by omega)
  have HW0 := Lib.hid (WrAt.new (w0 := w) (w := w) (Nat.le_refl _))
  have HB0 := Lib.hid (below_alloc' (Below.refl w.heap.size w) (.cells #[.int .i64 0, .slice none 0 0] 30))
  go_enter Try.func4, Try.ntmps4
  go_wp2_with fail
  have hb1 := bytes_calls w ((w.alloc (.cells #[.int .i64 0, .slice none 0 0] 30)).alloc (.cells (madeCells #[.int .u8 0] m) 5)) w.heap.size (fun k => w.heap.size ≤ k) _ 0 [] (List.replicate m 0) (some ⟨w.heap.size + 1, 0, none⟩) m (below_alloc' HB0.out _) (HW0.out.kept ((Kept.refl _ (fun _ => False)).alloc _) (fun _ _ => id)) (by have h := C_made (w.alloc (.cells #[.int .i64 0, .slice none 0 0] 30)) m (by omega); simpa using h) (by rw [List.length_replicate]; omega)
  rw [List.length_replicate] at hb1
  refine hb1.mono ?_
  rintro r w1 hP; obtain ⟨rfl, v1, hW, hB, hK⟩ := hP.since ⟨rfl, rfl⟩ (below_alloc' HB0.out _)
  generalize hx1 : putE 0 [] (grp m ++ List.replicate m 0) = e1 at hfc hW
  generalize hx2 : putO 0 [] (grp m ++ List.replicate m 0) = o1 at hfc hW
  have HW1 := Lib.hid hW; have HB1 := Lib.hid hB; have HFC := Lib.hid hfc
  clear hP hb1 hW hB hK HW0 HB0 hfc hx1 hx2
  go_wp2_with fail
  refine (end_calls w w1 _ _ _ _ _ HB1.out HW1.out).mono ?_
  rintro r w2 ⟨va, rfl, hO, hB, hK⟩
  obtain ⟨La, hLa⟩ : ∃ L, (if e1 = 0 then o1 else []) = L := ⟨_, rfl⟩
  rw [hLa] at hO
  obtain ⟨Aa, ca, rfl⟩ := Kd.R_slice hO
  have HLA := Lib.hid hLa
  have HB2 := Lib.hid hB; have HW2 := Lib.hid (HW1.out.kept hK (fun _ _ => id))
  clear hO hB hK hLa HW1 HB1
  go_wp2_with fail
  have hf1 := frame_calls w (w2.alloc (.cells (madeCells #[.int .u8 0] m) 5)) 1 (List.replicate m 0) (some ⟨w2.heap.size, 0, none⟩) m (below_alloc' HB2.out _) (C_made w2 m (by omega)) (by rw [List.length_replicate]; omega) (by decide) (by decide)
  rw [List.length_replicate] at hf1
  refine hf1.mono ?_
  rintro r w3 ⟨vf, rfl, hO, hB, hK⟩
  have hfc := HFC.out
  generalize hx1 : frE 1 (List.replicate m 0) = fe at hfc hO
  generalize hx2 : frO 1 (List.replicate m 0) = fo at hfc hO
  have HFD := Lib.hid hfc
  obtain ⟨Lf, hLf⟩ : ∃ L, (if fe = 0 then fo else []) = L := ⟨_, rfl⟩
  rw [hLf] at hO
  obtain ⟨Af, cf, rfl⟩ := Kd.R_slice hO
  have HLF := Lib.hid hLf
  have HB3 := Lib.hid hB; have HW3 := Lib.hid ((HW2.out.kept ((Kept.refl w2 (fun _ => False)).alloc (.cells (madeCells #[.int .u8 0] m) 5)) (fun _ _ => id)).kept hK (fun _ _ => id))
  clear hO hB hK hLf HW2 HB2 hf1 hfc hx1 hx2 HFC
  go_wp2_with fail
  refine (Calls.mono (bool_calls w _ _ _ _ _ _ true HB3.out HW3.out) ?_); rintro r w4 hP; obtain ⟨rfl, v4, hW4, hB4, hK4⟩ := WPost.since ⟨rfl, rfl⟩ HB3.out hP; have HW4 := Lib.hid hW4; have HB4 := Lib.hid hB4; clear hP hW4 hB4 hK4 HW3 HB3; go_wp2_with fail
  refine (Calls.mono (bool_calls w _ _ _ _ _ _ false HB4.out HW4.out) ?_); rintro r w5 hP; obtain ⟨rfl, v5, hW5, hB5, hK5⟩ := WPost.since ⟨rfl, rfl⟩ HB4.out hP; have HW5 := Lib.hid hW5; have HB5 := Lib.hid hB5; clear hP hW5 hB5 hK5 HW4 HB4; go_wp2_with fail
  refine (end_calls w w5 _ _ _ _ _ HB5.out HW5.out).mono ?_
  rintro r w6 ⟨vc, rfl, hO, hB, hK⟩
  have hfc := HFD.out
  generalize hx1 : putE (putE e1 o1 (boolB true)) (putO e1 o1 (boolB true)) (boolB false) = e3 at hfc hO
  generalize hx2 : putO (putE e1 o1 (boolB true)) (putO e1 o1 (boolB true)) (boolB false) = o3 at hfc hO
  obtain ⟨Lc, hLc⟩ : ∃ L, (if e3 = 0 then o3 else []) = L := ⟨_, rfl⟩
  rw [hLc] at hO
  obtain ⟨Ac, cc, rfl⟩ := Kd.R_slice hO
  have HB6 := Lib.hid hB
  have hla := HLA.out
  have hlf := HLF.out
  clear hO hB hK HW5 HB5 hx1 hx2 HFD HLA HLF
  clear d1 d2 hmk
  rcases hfc.case with ⟨c0, rfl, rfl, rfl⟩ | ⟨c0, rfl, c1, (⟨rfl, c2, c3⟩ | ⟨rfl, c3⟩), (⟨rfl, c4, c5⟩ | ⟨rfl, c5⟩)⟩
  · rw [if_neg (by decide)] at hla hlf hLc
    subst hla hlf hLc
    clear hfc
    have t1 : decide (65536 < (m : Int) + 3) = true := decide_eq_true (by omega)
    go_wp2_with (first | (go_at_call 10; refine (known_calls _).mono ?_; rintro r w7 ⟨rfl, hb⟩; have HB7 := Lib.hid (Below.trans' HB6.out hb); clear hb))
    go_ret
    exact ⟨rfl, HB7.out⟩
  · rw [if_pos rfl] at hla
    rw [if_pos rfl] at hlf
    rw [if_pos rfl] at hLc
    subst hla hlf hLc
    clear hfc
    rw [c1, c2, c4]
    have t1 : decide (65536 < (m : Int) + 3) = false := decide_eq_false (by omega)
    have t2 : decide ((m : Int) + 4 ≤ 65536) = true := decide_eq_true (by omega)
    have t4 : ((m : Int) + 4 != 0) = true := by rw [bne_iff_ne]; omega
    have t5 : ((m : Int) + 4 == 0) = false := by rw [beq_eq_false_iff_ne]; omega
    have t3 : decide (65536 < (m : Int) + 5) = false := decide_eq_false (by omega)
    clear c0 c1 c2 c3 c4 c5
    go_wp2_with (first | (go_at_call 10; refine (known_calls _).mono ?_; rintro r w7 ⟨rfl, hb⟩; have HB7 := Lib.hid (Below.trans' HB6.out hb); clear hb))
    go_ret
    exact ⟨rfl, HB7.out⟩
  · rw [if_pos rfl] at hla
    rw [if_pos rfl] at hlf
    rw [if_neg (by decide)] at hLc
    subst hla hlf hLc
    clear hfc
    rw [c1, c2]
    have t1 : decide (65536 < (m : Int) + 3) = false := decide_eq_false (by omega)
    have t2 : decide ((m : Int) + 4 ≤ 65536) = true := decide_eq_true (by omega)
    have t4 : ((m : Int) + 4 != 0) = true := by rw [bne_iff_ne]; omega
    have t5 : ((m : Int) + 4 == 0) = false := by rw [beq_eq_false_iff_ne]; omega
    have t3 : decide (65536 < (m : Int) + 5) = true := decide_eq_true (by omega)
    clear c0 c1 c2 c3 c5
    go_wp2_with (first | (go_at_call 10; refine (known_calls _).mono ?_; rintro r w7 ⟨rfl, hb⟩; have HB7 := Lib.hid (Below.trans' HB6.out hb); clear hb))
    go_ret
    exact ⟨rfl, HB7.out⟩
  · rw [if_pos rfl] at hla
    rw [if_neg (by decide)] at hlf
    rw [if_pos rfl] at hLc
    subst hla hlf hLc
    clear hfc
    rw [c1, c4]
    have t1 : decide (65536 < (m : Int) + 3) = false := decide_eq_false (by omega)
    have t2 : decide ((m : Int) + 4 ≤ 65536) = false := decide_eq_false (by omega)
    have t3 : decide (65536 < (m : Int) + 5) = false := decide_eq_false (by omega)
    clear c0 c1 c3 c4 c5
    go_wp2_with (first | (go_at_call 10; refine (known_calls _).mono ?_; rintro r w7 ⟨rfl, hb⟩; have HB7 := Lib.hid (Below.trans' HB6.out hb); clear hb))
    go_ret
    exact ⟨rfl, HB7.out⟩
  · rw [if_pos rfl] at hla
    rw [if_neg (by decide)] at hlf
    rw [if_neg (by decide)] at hLc
    subst hla hlf hLc
    clear hfc
    rw [c1]
    have t1 : decide (65536 < (m : Int) + 3) = false := decide_eq_false (by omega)
    have t2 : decide ((m : Int) + 4 ≤ 65536) = false := decide_eq_false (by omega)
    have t3 : decide (65536 < (m : Int) + 5) = true := decide_eq_true (by omega)
    clear c0 c1 c3 c5
    go_wp2_with (first | (go_at_call 10; refine (known_calls _).mono ?_; rintro r w7 ⟨rfl, hb⟩; have HB7 := Lib.hid (Below.trans' HB6.out hb); clear hb))
    go_ret
    exact ⟨rfl, HB7.out⟩

theorem wf64 {n : Int} (h : (Lit.int .i64 n).wf = true) : -9223372036854775808 ≤ n ∧ n ≤ 9223372036854775807 := by
  simp [Lit.wf] at h
  have e1 : IntKind.i64.min = -9223372036854775808 := by rfl
  have e2 : IntKind.i64.max = 9223372036854775807 := by rfl
  omega
theorem full_law (n : Int) (w : World) (h : (Lit.int .i64 n).wf = true) : Calls Try.prog 4 #[.int .i64 n] w (fun r w' => r = .returned (.bool true) ∧ Below w.heap.size w w') := full_walk n w (wf64 h).1 (wf64 h).2
end Go.Proofs.Ytpbmfdflmmeghaa.Wire
