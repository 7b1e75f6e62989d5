/- The plain laws of option.Encode and option.Decode: each undoes the other; and what an option that is picked is. -/
import Derived.Test.YtmmmhkeecaangaaQx3
import Derived.Test.YtmmmhkeecaangaaQx20
import Derived.Test.YtmmmhkeecaangaaQx12
import Derived.Test.YtmmmhkeecaangaaQx31
import Derived.Test.YtmmmhkeecaangaaQx27
namespace Go.Proofs.Ytmmmhkeecaangaa.Q
open Go.RowKit Go.Proofs.YtmmmhkeecaangaaW.PrintWords Go.Proofs.YtmmmhkeecaangaaW.PrintLast Go.Proofs.YtmmmhkeecaangaaW.PrintMore Go.Proofs.Ytmmmhkeecaangaa.Wire
set_option linter.unusedVariables false
set_option linter.unusedSimpArgs false

theorem wrap_s (i : Nat) (h : i < 4611686018427387904) : wrap64 ((i : Int) + 1) = ((i + 1 : Nat) : Int) := by unfold wrap64; omega
theorem rd_nat (l : List Int) (i : Nat) : rd l (i : Int) = l.getD i 0 := by simp [rd]
theorem same_refl (l : List Int) (hl : l.length < 4611686018427387904) : Ev (fun k => bandplanref30_Same.f k l l) true := by
  have aux : ∀ d (i : Nat), i + d = l.length → Ev (fun k => bandplanref30_Same.l0 k l l (i : Int)) true := by
    intro d
    induction d with
    | zero =>
      intro i hi
      refine Ev.step (fun _ => bandplanref30_Same.l0.eq_2 ..) ?_
      simp only [if_neg (show ¬ (i : Int) < (l.length : Int) by omega)]
      exact Ev.now true
    | succ d ih =>
      intro i hi
      refine Ev.step (fun _ => bandplanref30_Same.l0.eq_2 ..) ?_
      simp only [if_pos (show (i : Int) < (l.length : Int) by omega), if_pos (show (0 : Int) ≤ (i : Int) by omega), if_true]
      rw [wrap_s i (by omega)]
      exact ih (i + 1) (by omega)
  unfold bandplanref30_Same.f
  simp only [if_true]
  exact aux l.length 0 (by omega)
theorem has_ev (l : List Int) (a : Int) (hl : l.length < 4611686018427387904) : Ev (fun k => bandplanref30_Has.f k l a) (l.contains a) := by
  have aux : ∀ d (i : Nat), i + d = l.length → Ev (fun k => bandplanref30_Has.l0 k l a (i : Int)) ((l.drop i).contains a) := by
    intro d
    induction d with
    | zero =>
      intro i hi
      refine Ev.step (fun _ => bandplanref30_Has.l0.eq_2 ..) ?_
      simp only [if_neg (show ¬ (i : Int) < (l.length : Int) by omega)]
      rw [List.drop_eq_nil_of_le (by omega)]
      exact Ev.now _
    | succ d ih =>
      intro i hi
      refine Ev.step (fun _ => bandplanref30_Has.l0.eq_2 ..) ?_
      simp only [if_pos (show (i : Int) < (l.length : Int) by omega), if_pos (show (0 : Int) ≤ (i : Int) by omega)]
      rw [rd_nat, wrap_s i (by omega), List.drop_eq_getElem_cons (by omega), getD_at l 0 i (by omega)]
      by_cases e : l.getD i 0 = a
      · simp only [if_pos e]
        rw [show (l.getD i 0 :: l.drop (i + 1)).contains a = true by rw [e]; simp]
        exact Ev.now _
      · simp only [if_neg e]
        rw [show (l.getD i 0 :: l.drop (i + 1)).contains a = (l.drop (i + 1)).contains a by
          rw [List.contains_cons, show (a == l.getD i 0) = false by simpa using fun h => e h.symm]; simp]
        exact ih (i + 1) (by omega)
  exact aux l.length 0 (by omega)
theorem named_eq (s p : Int) (l : List Int) (hl : l.length < 1000000000) : bandplanref30_Named.f s p l = some (p :: l) := by
  unfold bandplanref30_Named.f
  simp only [Option.bind_some, List.length_singleton, List.singleton_append]
  rw [if_pos (by omega)]
abbrev SB := S37
theorem rdT_nat (l : List SB) (i : Nat) : rd_T37 l (i : Int) = l.getD i z37 := by simp [rd_T37]
theorem grp_len2 {n : Nat} (h : n < 16384) : (grp n).length ≤ 2 := by
  by_cases q : n < 128
  · rw [grp_small q]; simp
  · rw [grp_big q, grp_small (by omega)]; simp
def bidBytes (b : Bid) : List Int := grp b.f0.toNat ++ (grp b.f1.toNat ++ (grp b.f2.length ++ b.f2.flatMap (fun o => grp o.toNat)))
def encBytes (l : List Bid) : List Int := grp l.length ++ l.flatMap bidBytes
theorem stepU_ok (out : List Int) (n : Int) (h0 : 0 ≤ n) (h : out.length + (grp n.toNat).length ≤ 65536) : stepU (0, out) n = (0, out ++ grp n.toNat) := by
  unfold stepU uintE uintO putE putO
  simp only [if_neg (show ¬ n < 0 by omega), if_true, if_neg (show ¬ out.length + (grp n.toNat).length > 65536 by omega)]
theorem foldU_ok : ∀ (ns : List Int) (out : List Int), (∀ n ∈ ns, 0 ≤ n ∧ n < 16384) → out.length + 2 * ns.length ≤ 65536 → ns.foldl stepU (0, out) = (0, out ++ ns.flatMap (fun n => grp n.toNat))
  | [], out, _, _ => by simp
  | n :: r, out, hn, hl => by
    have h1 := hn n (by simp)
    have h2 := grp_len2 (n := n.toNat) (by omega)
    simp only [List.length_cons] at hl
    rw [List.foldl_cons, stepU_ok out n h1.1 (by omega), foldU_ok r _ (fun m hm => hn m (List.mem_cons_of_mem _ hm)) (by rw [List.length_append]; omega)]
    simp
theorem bidNums_facts {b : Bid} (h : validB b.f0 b.f1 b.f2 = true) : (∀ n ∈ bidNums b, 0 ≤ n ∧ n < 16384) ∧ (bidNums b).length ≤ 6 := by
  obtain ⟨⟨h0, h1⟩, h2, h3⟩ := validB_facts h
  constructor
  · intro n hn
    unfold bidNums at hn
    simp only [List.mem_cons] at hn
    rcases hn with rfl | rfl | rfl | hn
    · omega
    · have := h3 b.f1 (by simp); omega
    · omega
    · have := h3 n (List.mem_cons_of_mem _ hn); omega
  · unfold bidNums; simp; omega
theorem flat_len (l : List Bid) (h : ∀ b ∈ l, (bidNums b).length ≤ 6) : (l.flatMap bidNums).length ≤ 6 * l.length := by
  induction l with
  | nil => simp
  | cons b r ih =>
    rw [List.flatMap_cons, List.length_append, List.length_cons]
    have := h b (by simp)
    have := ih (fun c hc => h c (List.mem_cons_of_mem _ hc))
    omega
theorem encS_ok (l : List Bid) (hv : validBids l = true) (hl : l.length ≤ 5000) : encS l = (0, encBytes l) := by
  have hall := vbL_all l true 0 hv
  unfold encS
  have g := grp_len2 (n := l.length) (by omega)
  rw [stepU_ok [] (l.length : Int) (by omega) (by simp; omega), foldU_ok]
  · congr 1
    unfold encBytes
    rw [List.nil_append, show ((l.length : Int)).toNat = l.length by omega]
    congr 1
    clear hv hl g
    induction l with
    | nil => rfl
    | cons b r ih =>
      have e : (bidNums b).flatMap (fun n => grp n.toNat) = bidBytes b := by unfold bidBytes bidNums; simp
      rw [List.flatMap_cons, List.flatMap_cons, List.flatMap_append, ih (fun c hc => hall c (List.mem_cons_of_mem _ hc)), e]
  · intro n hn
    obtain ⟨b, hb, hnb⟩ := List.mem_flatMap.1 hn
    exact (bidNums_facts (hall b hb)).1 n hnb
  · have := flat_len l (fun b hb => (bidNums_facts (hall b hb)).2)
    rw [List.nil_append, show ((l.length : Int)).toNat = l.length by omega]
    omega
theorem numF_err (bits : Nat) (b : List Int) : ∀ (d p s : Nat) (acc : Int) (c : Int), d = b.length - p → numF bits b p s acc = .error c → c = 4 ∨ c = 6 := by
  intro d
  induction d with
  | zero =>
    intro p s acc c hd h
    unfold numF at h
    rw [dif_neg (by omega)] at h
    cases h; exact .inl rfl
  | succ d ih =>
    intro p s acc c hd h
    unfold numF at h
    rw [dif_pos (by omega)] at h
    split at h
    · cases h; exact .inr rfl
    · split at h
      · split at h
        · cases h; exact .inr rfl
        · cases h
      · exact ih (p + 1) _ _ _ (by omega) h
theorem uS_stick (b : List Int) (s : Int × Nat) (h : s.1 ≠ 0) : uS b s = s ∧ uR b s = 0 := by
  unfold uS uR valE valP valR
  rw [if_neg h, if_neg h, if_neg h]; exact ⟨rfl, rfl⟩
theorem cS_stick (lim : Int) (b : List Int) (s : Int × Nat) (h : s.1 ≠ 0) : cS lim b s = s ∧ cR lim b s = 0 := by
  unfold cS cR valE valP valR
  rw [if_neg h, if_neg h, if_neg h]; exact ⟨rfl, rfl⟩
theorem sameBids_refl (l : List SB) (hl : l.length < 1000000000) (hx : ∀ x ∈ l, x.f2.length < 1000000000) : Ev (fun k => bandplanref30_SameBids.f k l l) true := by
  have aux : ∀ d (i : Nat), i + d = l.length → Ev (fun k => bandplanref30_SameBids.l0 k l l (i : Int)) true := by
    intro d
    induction d with
    | zero =>
      intro i hi
      refine Ev.step (fun _ => bandplanref30_SameBids.l0.eq_2 ..) ?_
      simp only [if_neg (show ¬ (i : Int) < (l.length : Int) by omega)]
      exact Ev.now true
    | succ d ih =>
      intro i hi
      refine Ev.step (fun _ => bandplanref30_SameBids.l0.eq_2 ..) ?_
      simp only [if_pos (show (i : Int) < (l.length : Int) by omega), if_pos (show (0 : Int) ≤ (i : Int) by omega), if_true]
      rw [rdT_nat]
      refine Ev.bind (same_refl _ ?_) ?_
      · have := hx (l.getD i z37) (by rw [← getD_at l z37 i (by omega)]; exact List.getElem_mem _); omega
      simp only [if_true]
      rw [wrap_s i (by omega)]
      exact ih (i + 1) (by omega)
  unfold bandplanref30_SameBids.f
  simp only [if_true]
  exact aux l.length 0 (by omega)
theorem getD_mid (pre : List Int) (x : Int) (rest : List Int) : (pre ++ x :: rest).getD pre.length 0 = x := by simp [List.getD]

theorem numF_grp (B : Nat) (hB : B ≤ 64) (n : Nat) : ∀ (s : Nat) (acc : Int) (pre rest : List Int), s < B → n * 2 ^ s < 2 ^ B → (0 < s → 0 < n) →
    numF B (pre ++ (grp n ++ rest)) pre.length s acc = .ok (acc + (n : Int) * 2 ^ s, pre.length + (grp n).length) := by
  induction n using Nat.strongRecOn with
  | ind n ih =>
    intro s acc pre rest hs hlt hz
    have hlt2 : n < 2 ^ (B - s) := by
      have e : 2 ^ B = 2 ^ (B - s) * 2 ^ s := by rw [← Nat.pow_add]; congr 1; omega
      rw [e] at hlt
      exact Nat.lt_of_mul_lt_mul_right hlt
    by_cases h : n < 128
    · rw [grp_small h, List.singleton_append]
      have hnb : ¬ (((B : Int) - s < 7 ∧ (n : Int) / 2 ^ (B - s) ≠ 0) ∨ ((B : Int) - s = 7 ∧ 128 ≤ (n : Int))) := by
        rintro (⟨h1, h2⟩ | ⟨h1, h2⟩)
        · apply h2
          have h3 : (n : Int) < 2 ^ (B - s) := by
            have := Int.ofNat_lt.2 hlt2
            rw [Int.natCast_pow] at this; exact this
          exact Int.ediv_eq_zero_of_lt (by omega) h3
        · omega
      rw [numF_last (by simp) (getD_mid pre n rest) hnb (by omega) (by omega)]
      rw [Int.emod_eq_of_lt (by omega) (by omega)]; rfl
    · rw [grp_big h, List.cons_append]
      have h8 : 8 ≤ B - s := by
        rcases Nat.lt_or_ge (B - s) 8 with h1 | h1
        · have := Nat.pow_le_pow_right (n := 2) (by decide) (show B - s ≤ 7 by omega)
          have e : 2 ^ 7 = 128 := by decide
          omega
        · exact h1
      have hnb : ¬ (((B : Int) - s < 7 ∧ ((n % 128 + 128 : Nat) : Int) / 2 ^ (B - s) ≠ 0) ∨ ((B : Int) - s = 7 ∧ 128 ≤ ((n % 128 + 128 : Nat) : Int))) := by
        rintro (⟨h1, h2⟩ | ⟨h1, h2⟩) <;> omega
      rw [numF_more (by simp) (getD_mid pre _ _) hnb (by omega)]
      have e1 : pre ++ ((n % 128 + 128 : Nat) : Int) :: (grp (n / 128) ++ rest) = (pre ++ [((n % 128 + 128 : Nat) : Int)]) ++ (grp (n / 128) ++ rest) := by simp
      have e2 : pre.length + 1 = (pre ++ [((n % 128 + 128 : Nat) : Int)]).length := by simp
      have e3 : n / 128 * 2 ^ (s + 7) < 2 ^ B := by
        have : n / 128 * 2 ^ (s + 7) ≤ n * 2 ^ s := by
          rw [Nat.pow_add, Nat.mul_comm (2 ^ s), ← Nat.mul_assoc]
          exact Nat.mul_le_mul_right _ (by have : (2 : Nat) ^ 7 = 128 := by decide
                                           omega)
        omega
      rw [e1, e2, ih (n / 128) (by omega) (s + 7) _ _ rest (by omega) e3 (by omega)]
      have e4 : ((n % 128 + 128 : Nat) : Int) % 128 = ((n % 128 : Nat) : Int) := by omega
      have e5 : (2 : Int) ^ (s + 7) = 128 * 2 ^ s := by rw [Int.pow_add, Int.mul_comm]; rfl
      have e6 : acc + ((n % 128 : Nat) : Int) * 2 ^ s + ((n / 128 : Nat) : Int) * 2 ^ (s + 7) = acc + (n : Int) * 2 ^ s := by
        rw [e5, ← Int.mul_assoc, Int.add_assoc, ← Int.add_mul]; congr 2; omega
      rw [e4, e6]
      simp only [List.length_append, List.length_cons, List.length_nil]
      congr 2; omega

theorem uintF_grp (n : Nat) (hn : n < 9223372036854775808) (pre rest : List Int) : uintF (pre ++ (grp n ++ rest)) pre.length = .ok ((n : Int), pre.length + (grp n).length) := by
  unfold uintF
  have h := numF_grp 63 (by decide) n 0 0 pre rest (by decide) (by simpa using hn) (by omega)
  simpa using h

theorem countF_grp (n : Nat) (limit : Int) (hl : (n : Int) ≤ limit) (hn : n < 9223372036854775808) (pre rest : List Int) : countF limit (pre ++ (grp n ++ rest)) pre.length = .ok ((n : Int), pre.length + (grp n).length) := by
  have h := uintF_grp n hn pre rest
  unfold uintF at h
  unfold countF
  rw [h]
  simp only
  rw [if_neg (by omega), if_neg (by omega)]

theorem numF_inv (B : Nat) (b : List Int) (hby : ∀ x ∈ b, 0 ≤ x ∧ x < 256) : ∀ (d p s : Nat) (acc n : Int) (q : Nat), d = b.length - p → numF B b p s acc = .ok (n, q) →
    ∃ m : Nat, n = acc + (m : Int) * 2 ^ s ∧ b.drop p = grp m ++ b.drop q ∧ (0 < s → 0 < m) := by
  intro d
  induction d with
  | zero =>
    intro p s acc n q hd h
    unfold numF at h
    rw [dif_neg (by omega)] at h
    cases h
  | succ d ih =>
    intro p s acc n q hd h
    have hp : p < b.length := by omega
    have hv := hby (b.getD p 0) (by rw [← getD_at b 0 p hp]; exact List.getElem_mem hp)
    have hdr : b.drop p = b.getD p 0 :: b.drop (p + 1) := by rw [List.drop_eq_getElem_cons hp, getD_at b 0 p hp]
    unfold numF at h
    rw [dif_pos hp] at h
    generalize b.getD p 0 = v at h hv hdr
    split at h
    · cases h
    · split at h
      · rename_i hlt
        split at h
        · cases h
        · rename_i hz
          simp only [Except.ok.injEq, Prod.mk.injEq] at h
          obtain ⟨rfl, rfl⟩ := h
          refine ⟨v.toNat, ?_, ?_, fun hs => by omega⟩
          · rw [Int.emod_eq_of_lt hv.1 hlt, Int.toNat_of_nonneg hv.1]
          · rw [grp_small (by omega), hdr, Int.toNat_of_nonneg hv.1]; rfl
      · rename_i hge
        obtain ⟨m, rfl, h2, h3⟩ := ih (p + 1) _ _ n q (by omega) h
        have hm := h3 (by omega)
        refine ⟨(v % 128).toNat + 128 * m, ?_, ?_, fun _ => by omega⟩
        · have e5 : (2 : Int) ^ (s + 7) = 128 * 2 ^ s := by rw [Int.pow_add, Int.mul_comm]; rfl
          rw [e5, ← Int.mul_assoc, Int.add_assoc, ← Int.add_mul]
          congr 2
          omega
        · rw [grp_big (by omega), hdr, h2]
          rw [show ((v % 128).toNat + 128 * m) / 128 = m by omega, show ((((v % 128).toNat + 128 * m) % 128 + 128 : Nat) : Int) = v by omega]
          rfl
section
variable {b : List Int} (hby : ∀ x ∈ b, 0 ≤ x ∧ x < 256)
include hby
theorem uS_inv {s : Int × Nat} (h : (uS b s).1 = 0) : s.1 = 0 ∧ 0 ≤ uR b s ∧ b.drop s.2 = grp (uR b s).toNat ++ b.drop (uS b s).2 := by
  by_cases h0 : s.1 = 0
  · refine ⟨h0, ?_⟩
    unfold uS uR valE valP valR at *
    simp only [if_pos h0] at *
    unfold uintF at *
    cases hn : numF 63 b s.2 0 0 with
    | error c => rw [hn] at h; have := numF_err 63 b _ _ _ _ c rfl hn; simp only at h; omega
    | ok nq =>
      obtain ⟨n, q⟩ := nq
      obtain ⟨m, h1, h2, _⟩ := numF_inv 63 b hby _ _ _ _ _ _ rfl hn
      simp only [Int.pow_zero, Int.mul_one, Int.zero_add] at h1
      subst h1
      exact ⟨by simp only; omega, by simpa using h2⟩
  · exact absurd h (by rw [(uS_stick b s h0).1]; exact h0)
theorem cS_inv {lim : Int} {s : Int × Nat} (h : (cS lim b s).1 = 0) : s.1 = 0 ∧ 0 ≤ cR lim b s ∧ b.drop s.2 = grp (cR lim b s).toNat ++ b.drop (cS lim b s).2 := by
  by_cases h0 : s.1 = 0
  · refine ⟨h0, ?_⟩
    unfold cS cR valE valP valR at *
    simp only [if_pos h0] at *
    unfold countF at *
    cases hn : numF 63 b s.2 0 0 with
    | error c => rw [hn] at h; have := numF_err 63 b _ _ _ _ c rfl hn; simp only at h; omega
    | ok nq =>
      obtain ⟨n, q⟩ := nq
      obtain ⟨m, h1, h2, _⟩ := numF_inv 63 b hby _ _ _ _ _ _ rfl hn
      simp only [Int.pow_zero, Int.mul_one, Int.zero_add] at h1
      subst h1
      rw [hn] at h
      simp only at h ⊢
      by_cases g1 : lim < 0
      · simp only [if_pos g1] at h; omega
      · by_cases g2 : lim < (m : Int)
        · simp only [if_neg g1, if_pos g2] at h; omega
        · simp only [if_neg g1, if_neg g2]
          exact ⟨by omega, by simpa using h2⟩
  · exact absurd h (by rw [(cS_stick lim b s h0).1]; exact h0)
theorem fbAt_inv (s : Int × Nat) : ∀ j, (fbAt b s j).2.1 = 0 → s.1 = 0 ∧ b.drop s.2 = (fbAt b s j).1.flatMap (fun o => grp o.toNat) ++ b.drop (fbAt b s j).2.2
  | 0 => fun h => ⟨h, rfl⟩
  | j + 1 => fun h => by
    obtain ⟨h1, _, h3⟩ := uS_inv hby (s := (fbAt b s j).2) h
    obtain ⟨h4, h5⟩ := fbAt_inv s j h1
    refine ⟨h4, ?_⟩
    rw [h5, h3]
    show _ = ((fbAt b s j).1 ++ [uR b (fbAt b s j).2]).flatMap (fun o => grp o.toNat) ++ b.drop (uS b (fbAt b s j).2).2
    simp
theorem bidS_inv (s : Int × Nat) (h : (bidS b s).1 = 0) : s.1 = 0 ∧ b.drop s.2 = bidBytes (bidOf b s) ++ b.drop (bidS b s).2 := by
  unfold bidS at h
  obtain ⟨h1, h2⟩ := fbAt_inv hby _ _ h
  obtain ⟨h3, h4, h5⟩ := cS_inv hby h1
  unfold s2Of at h3
  obtain ⟨h6, h7, h8⟩ := uS_inv hby h3
  obtain ⟨h9, h10, h11⟩ := uS_inv hby h6
  refine ⟨h9, ?_⟩
  unfold bidBytes bidOf bidS
  simp only [fbAt_len, List.append_assoc]
  rw [← h2, ← h5]
  unfold s2Of
  rw [← h8, ← h11]
theorem decAt_inv (s : Int × Nat) : ∀ j, (decAt b s j).2.1 = 0 → s.1 = 0 ∧ b.drop s.2 = (decAt b s j).1.flatMap bidBytes ++ b.drop (decAt b s j).2.2
  | 0 => fun h => ⟨h, rfl⟩
  | j + 1 => fun h => by
    obtain ⟨h1, h3⟩ := bidS_inv hby (decAt b s j).2 h
    obtain ⟨h4, h5⟩ := decAt_inv s j h1
    refine ⟨h4, ?_⟩
    rw [h5, h3]
    show _ = ((decAt b s j).1 ++ [bidOf b (decAt b s j).2]).flatMap bidBytes ++ b.drop (bidS b (decAt b s j).2).2
    simp
/-- What is decoded encodes to the bytes that it came from. -/
theorem dec_enc (h : decErr b = 0) : validBids (decL b) = true ∧ (decL b).length ≤ 512 ∧ encBytes (decL b) = b := by
  have h0 : decE b = 0 ∧ validBids (decAll b).1 = true := by
    unfold decErr at h
    by_cases e : decE b = 0
    · rw [if_pos e] at h
      refine ⟨e, ?_⟩
      cases q : validBids (decAll b).1 with
      | true => rfl
      | false => rw [q] at h; exact absurd h (by decide)
    · rw [if_neg e] at h; exact absurd h e
  have hcr := cR_le (lim := 512) (b := b) (0, 0) (by decide) hby
  have hL : decL b = (decAll b).1 := by unfold decL; rw [if_pos h0]
  have hE := h0.1
  unfold decE endE at hE
  have hE2 : (decAll b).2.1 = 0 ∧ (decAll b).2.2 = b.length := by
    by_cases q : ¬ (decAll b).2.1 = 0 ∨ (decAll b).2.2 = b.length
    · rw [if_pos q] at hE; exact ⟨hE, q.resolve_left (fun h => h hE)⟩
    · rw [if_neg q] at hE; omega
  rw [hL]
  refine ⟨h0.2, by unfold decAll; rw [decAt_len]; omega, ?_⟩
  unfold decAll at hE2
  obtain ⟨h1, h2⟩ := decAt_inv hby _ _ hE2.1
  obtain ⟨_, h3, h4⟩ := cS_inv hby h1
  rw [h2, hE2.2, List.drop_length, List.append_nil] at h4
  unfold encBytes
  rw [show (decAll b).1.length = (cR 512 b (0, 0)).toNat by unfold decAll; rw [decAt_len]]
  unfold decAll
  exact h4.symm
end
theorem u_fwd (n : Int) (h0 : 0 ≤ n) (hn : n < 9223372036854775808) (pre rest : List Int) : uR (pre ++ (grp n.toNat ++ rest)) (0, pre.length) = n ∧ uS (pre ++ (grp n.toNat ++ rest)) (0, pre.length) = (0, (pre ++ grp n.toNat).length) := by
  have h := uintF_grp n.toNat (by omega) pre rest
  unfold uR uS valR valE valP
  simp only [if_true, h]
  exact ⟨by omega, by simp⟩
theorem c_fwd (lim : Int) (n : Nat) (hl : (n : Int) ≤ lim) (hn : n < 9223372036854775808) (pre rest : List Int) : cR lim (pre ++ (grp n ++ rest)) (0, pre.length) = (n : Int) ∧ cS lim (pre ++ (grp n ++ rest)) (0, pre.length) = (0, (pre ++ grp n).length) := by
  have h := countF_grp n lim hl hn pre rest
  unfold cR cS valR valE valP
  simp only [if_true, h]
  exact ⟨trivial, by simp⟩
theorem fb_fwd (pre : List Int) (l : List Int) (h : ∀ x ∈ l, 0 ≤ x ∧ x < 9223372036854775808) :
    ∀ j, j ≤ l.length → fbAt (pre ++ l.flatMap (fun o => grp o.toNat)) (0, pre.length) j = (l.take j, (0, (pre ++ (l.take j).flatMap (fun o => grp o.toNat)).length))
  | 0, _ => by simp [fbAt]
  | j + 1, hj => by
    have hi := fb_fwd pre l h j (by omega)
    have hx := h (l[j]) (List.getElem_mem _)
    have ht : l.take (j + 1) = l.take j ++ [l[j]] := by rw [List.take_add_one, List.getElem?_eq_getElem (by omega)]; rfl
    have e : pre ++ l.flatMap (fun o => grp o.toNat) = (pre ++ (l.take j).flatMap (fun o => grp o.toNat)) ++ (grp (l[j]).toNat ++ (l.drop (j + 1)).flatMap (fun o => grp o.toNat)) := by
      have : l = l.take j ++ l[j] :: l.drop (j + 1) := by rw [← List.drop_eq_getElem_cons (by omega), List.take_append_drop]
      have h2 := congrArg (List.flatMap (fun o => grp o.toNat)) this
      rw [List.flatMap_append, List.flatMap_cons] at h2
      rw [h2]
      simp only [List.append_assoc]
    obtain ⟨h1, h2⟩ := u_fwd (l[j]) hx.1 hx.2 (pre ++ (l.take j).flatMap (fun o => grp o.toNat)) ((l.drop (j + 1)).flatMap (fun o => grp o.toNat))
    rw [← e] at h1 h2
    show ((fbAt _ _ j).1 ++ [uR _ (fbAt _ _ j).2], uS _ (fbAt _ _ j).2) = _
    rw [hi]
    simp only
    rw [h1, h2, ht]
    simp only [List.flatMap_append, List.flatMap_cons, List.flatMap_nil, List.append_nil, List.append_assoc]
/-- What is encoded of one bid decodes to it. -/
theorem enc_dec (x : Bid) (hv : validB x.f0 x.f1 x.f2 = true) : decL (encBytes [x]) = [x] ∧ decErr (encBytes [x]) = 0 := by
  obtain ⟨⟨h0, h1⟩, h2, h3⟩ := validB_facts hv
  have hp := h3 x.f1 (by simp)
  have hvb : validBids [x] = true := by
    unfold validBids vbL vbL
    simp [hv]
  have c1 := c_fwd 512 1 (by decide) (by decide) [] (bidBytes x)
  have e0 : encBytes [x] = [] ++ (grp 1 ++ bidBytes x) := by unfold encBytes; simp
  have e1 : encBytes [x] = grp 1 ++ (grp x.f0.toNat ++ (grp x.f1.toNat ++ (grp x.f2.length ++ x.f2.flatMap (fun o => grp o.toNat)))) := by unfold encBytes bidBytes; simp
  rw [← e0] at c1
  have u1 := u_fwd x.f0 h0 (by omega) (grp 1) (grp x.f1.toNat ++ (grp x.f2.length ++ x.f2.flatMap (fun o => grp o.toNat)))
  rw [← e1] at u1
  have u2 := u_fwd x.f1 hp.1 (by omega) (grp 1 ++ grp x.f0.toNat) (grp x.f2.length ++ x.f2.flatMap (fun o => grp o.toNat))
  rw [List.append_assoc, ← e1] at u2
  have c2 := c_fwd 3 x.f2.length (by omega) (by omega) (grp 1 ++ grp x.f0.toNat ++ grp x.f1.toNat) (x.f2.flatMap (fun o => grp o.toNat))
  rw [show grp 1 ++ grp x.f0.toNat ++ grp x.f1.toNat ++ (grp x.f2.length ++ x.f2.flatMap (fun o => grp o.toNat)) = encBytes [x] by rw [e1]; simp] at c2
  have f := fb_fwd (grp 1 ++ grp x.f0.toNat ++ grp x.f1.toNat ++ grp x.f2.length) x.f2 (fun y hy => by have := h3 y (List.mem_cons_of_mem _ hy); omega) x.f2.length (Nat.le_refl _)
  rw [List.take_length, show grp 1 ++ grp x.f0.toNat ++ grp x.f1.toNat ++ grp x.f2.length ++ x.f2.flatMap (fun o => grp o.toNat) = encBytes [x] by rw [e1]; simp] at f
  generalize encBytes [x] = b at *
  have hA : decAll b = ([x], (0, b.length)) := by
    unfold decAll
    have c11 : cR 512 b (0, 0) = 1 := c1.1
    have c12 : cS 512 b (0, 0) = (0, (grp 1).length) := by have := c1.2; simpa using this
    rw [c11, c12]
    show decAt b _ 1 = _
    unfold decAt decAt bidOf bidS s2Of
    simp only [List.nil_append] at *
    rw [u1.1, u1.2, u2.1, u2.2, c2.1, c2.2, Int.toNat_natCast, f]
  have hE : decE b = 0 := by unfold decE endE; rw [hA]; simp
  unfold decL decErr
  rw [hE, hA]
  simp [hvb]
theorem pickL_mem (seen : List Int) (c : Int) : ∀ L, pickL seen c L = c ∨ (pickL seen c L ∈ L ∧ seen.contains (pickL seen c L) = true)
  | [] => .inl rfl
  | o :: r => by
    unfold pickL
    by_cases h : seen.contains o = true
    · rw [if_pos h]; exact .inr ⟨by simp, h⟩
    · rw [if_neg h]
      rcases pickL_mem seen c r with h1 | ⟨h1, h2⟩
      · exact .inl h1
      · exact .inr ⟨List.mem_cons_of_mem _ h1, h2⟩
theorem pickL_skip (seen : List Int) (c : Int) : ∀ (L : List Int) (i : Nat), i < L.length → (∀ j, j ≤ i → L.getD j 0 ≠ pickL seen c L) → seen.contains (L.getD i 0) = false
  | [], i, h, _ => by simp at h
  | o :: r, i, h, hn => by
    unfold pickL at hn
    by_cases hs : seen.contains o = true
    · rw [if_pos hs] at hn
      exact absurd rfl (hn 0 (Nat.zero_le _))
    · rw [if_neg hs] at hn
      cases i with
      | zero => simpa using hs
      | succ i =>
        have := pickL_skip seen c r i (by simpa using h) (fun j hj => by have := hn (j + 1) (by omega); simpa using this)
        simpa using this
theorem pick_facts {s p : Int} {l : List Int} {h c : Int} {fs : List Int} (hc : chooseB s p l h c fs = true) :
    allowB h c (pickB p l c fs) = true ∧ (pickB p l c fs ≠ c → fs.contains (pickB p l c fs) = true) ∧ (fs.contains p = true → pickB p l c fs = p) := by
  unfold chooseB validForB at hc
  simp only [Bool.and_eq_true, Bool.not_eq_true'] at hc
  have hall : ∀ o ∈ p :: l, allowB h c o = true := fun o ho => by
    have := (List.any_eq_false.1 hc.1.2) o ho
    simpa using this
  have hg : goodB h c = true := by
    have := hall p (by simp)
    unfold allowB at this
    simp only [Bool.and_eq_true] at this
    exact this.1
  have hcc : allowB h c c = true := by
    have hg2 := (goodB_iff h c).1 hg
    unfold allowB
    rw [hg]
    simp
    omega
  unfold pickB
  refine ⟨?_, fun hne => ?_, fun hp => ?_⟩
  · rcases pickL_mem (c :: fs.reverse) c (p :: l) with h1 | ⟨h1, h2⟩
    · rw [h1]; exact hcc
    · exact hall _ h1
  · rcases pickL_mem (c :: fs.reverse) c (p :: l) with h1 | ⟨h1, h2⟩
    · exact absurd h1 hne
    · rw [List.contains_cons] at h2
      have e : (pickL (c :: fs.reverse) c (p :: l) == c) = false := by simpa using hne
      rw [e, Bool.false_or] at h2
      simpa using h2
  · unfold pickL
    rw [if_pos (by rw [List.contains_cons]; simp at hp ⊢; exact .inr hp)]
theorem pick_skip {p : Int} {l : List Int} {c : Int} {fs : List Int} {i : Nat} (hi : i < (p :: l).length) (hn : ∀ j, j ≤ i → (p :: l).getD j 0 ≠ pickB p l c fs) :
    (p :: l).getD i 0 ≠ c ∧ fs.contains ((p :: l).getD i 0) = false := by
  have := pickL_skip (c :: fs.reverse) c (p :: l) i hi hn
  rw [List.contains_cons, Bool.or_eq_false_iff] at this
  exact ⟨by simpa using this.1, by simpa using this.2⟩
end Go.Proofs.Ytmmmhkeecaangaa.Q
