import Derived.Test.YtmmmhkeecaangaaPod
import Derived.Test.YtmmmhkeecaangaaQx27
namespace Go.Proofs.Ytmmmhkeecaangaa.Q
open Go.RowKit Go.Proofs.YtmmmhkeecaangaaW.PrintWords Go.Proofs.YtmmmhkeecaangaaW.PrintLast Go.Proofs.YtmmmhkeecaangaaW.PrintMore Go.Proofs.Ytmmmhkeecaangaa.Wire
set_option linter.unusedVariables false
set_option linter.unusedSimpArgs false

theorem numF_err (bits : Nat) (b : List Int) : ∀ (d p s : Nat) (acc : Int) (c : Int), d = b.length - p → numF bits b p s acc = .error c → c = 4 ∨ c = 6 := by
  intro d
  induction d with
  | zero =>
    intro p s acc c hd h
    unfold numF at h
    rw [dif_neg (by omega)] at h
    cases h; exact .inl rfl
  | succ d ih =>
    intro p s acc c hd h
    unfold numF at h
    rw [dif_pos (by omega)] at h
    split at h
    · cases h; exact .inr rfl
    · split at h
      · split at h
        · cases h; exact .inr rfl
        · cases h
      · exact ih (p + 1) _ _ _ (by omega) h
theorem numF_le (bits : Nat) (b : List Int) : ∀ (d p s : Nat) (acc : Int) (n : Int) (q : Nat), d = b.length - p → numF bits b p s acc = .ok (n, q) → q ≤ b.length := by
  intro d
  induction d with
  | zero =>
    intro p s acc n q hd h
    unfold numF at h
    rw [dif_neg (by omega)] at h
    cases h
  | succ d ih =>
    intro p s acc n q hd h
    unfold numF at h
    rw [dif_pos (by omega)] at h
    split at h
    · cases h
    · split at h
      · split at h
        · cases h
        · simp only [Except.ok.injEq, Prod.mk.injEq] at h; omega
      · exact ih (p + 1) _ _ _ _ (by omega) h
theorem uS_le (b : List Int) (s : Int × Nat) (h : s.2 ≤ b.length) : (uS b s).2 ≤ b.length := by
  unfold uS valP uintF
  by_cases he : s.1 = 0
  · simp only [if_pos he]
    cases hn : numF 63 b s.2 0 0 with
    | ok nq => obtain ⟨n, q⟩ := nq; exact numF_le 63 b _ _ _ _ _ _ rfl hn
    | error c => exact h
  · simp only [if_neg he]; exact h
theorem cS_le (lim : Int) (b : List Int) (s : Int × Nat) (h : s.2 ≤ b.length) : (cS lim b s).2 ≤ b.length := by
  unfold cS valP countF
  by_cases he : s.1 = 0
  · simp only [if_pos he]
    cases hn : numF 63 b s.2 0 0 with
    | ok nq =>
      obtain ⟨n, q⟩ := nq
      have := numF_le 63 b _ _ _ _ _ _ rfl hn
      by_cases g : lim < 0
      · simp only [if_pos g]; exact h
      · by_cases g2 : lim < n
        · simp only [if_neg g, if_pos g2]; exact h
        · simp only [if_neg g, if_neg g2]; exact this
    | error c => exact h
  · simp only [if_neg he]; exact h
theorem uS_stick (b : List Int) (s : Int × Nat) (h : s.1 ≠ 0) : uS b s = s ∧ uR b s = 0 := by
  unfold uS uR valE valP valR
  rw [if_neg h, if_neg h, if_neg h]; exact ⟨rfl, rfl⟩
theorem cS_stick (lim : Int) (b : List Int) (s : Int × Nat) (h : s.1 ≠ 0) : cS lim b s = s ∧ cR lim b s = 0 := by
  unfold cS cR valE valP valR
  rw [if_neg h, if_neg h, if_neg h]; exact ⟨rfl, rfl⟩
theorem fbAt_stick (b : List Int) (s : Int × Nat) (h : s.1 ≠ 0) : ∀ j, (fbAt b s j).2 = s
  | 0 => rfl
  | j + 1 => by unfold fbAt; simp only; rw [fbAt_stick b s h j]; exact (uS_stick b s h).1
theorem fbAt_more (b : List Int) (s : Int × Nat) (i : Nat) (h : (fbAt b s i).2.1 ≠ 0) : ∀ j, (fbAt b s (i + j)).2 = (fbAt b s i).2
  | 0 => rfl
  | j + 1 => by
    show uS b (fbAt b s (i + j)).2 = _
    rw [fbAt_more b s i h j]; exact (uS_stick b _ h).1
theorem fbAt_le (b : List Int) (s : Int × Nat) (h : s.2 ≤ b.length) : ∀ j, (fbAt b s j).2.2 ≤ b.length
  | 0 => h
  | j + 1 => uS_le b _ (fbAt_le b s h j)
theorem bidS_stick (b : List Int) (s : Int × Nat) (h : s.1 ≠ 0) : bidS b s = s := by
  unfold bidS s2Of
  rw [(uS_stick b s h).1, (uS_stick b s h).1, (cS_stick 3 b s h).1]
  exact fbAt_stick b s h _
theorem bidS_le (b : List Int) (s : Int × Nat) (h : s.2 ≤ b.length) : (bidS b s).2 ≤ b.length := fbAt_le b _ (cS_le 3 b _ (uS_le b _ (uS_le b _ h))) _
theorem decAt_more (b : List Int) (s : Int × Nat) (i : Nat) (h : (decAt b s i).2.1 ≠ 0) : ∀ j, (decAt b s (i + j)).2 = (decAt b s i).2
  | 0 => rfl
  | j + 1 => by
    show bidS b (decAt b s (i + j)).2 = _
    rw [decAt_more b s i h j]; exact bidS_stick b _ h

/-- What the reference answers behind all bids. -/
def finish (b : List Int) (x : List Bid × (Int × Nat)) : List SB × Int :=
  if x.2.1 ≠ 0 then ([], x.2.1) else if (x.2.2 : Int) < (b.length : Int) then ([], 5) else if validBids x.1 = true then (x.1.map ofBid, 0) else ([], 6)
theorem map_toBid (l : List Bid) : (l.map ofBid).map toBid = l := by
  rw [List.map_map]
  have : (toBid ∘ ofBid) = id := rfl
  rw [this, List.map_id]

section
variable (b : List Int) (hl : b.length < 1000000000) (hby : ∀ x ∈ b, 0 ≤ x ∧ x < 256) (m : Nat)
include hl hby
theorem l1_ev (i : Nat) (out : List Bid) (f0 f1 : Int) (s5 : Int × Nat) (h5 : s5.2 ≤ b.length) (n : Nat) (hn : n ≤ 3) (hol : out.length ≤ 512) (hi : i < 512) (R : List SB × Int)
    (hR : (fbAt b s5 n).2.1 = 0 → Ev (fun k => bandplanref30_Decode.l0 k b (m : Int) ((fbAt b s5 n).2.2 : Int) ((out ++ [(⟨f0, f1, (fbAt b s5 n).1⟩ : Bid)]).map ofBid) ((i + 1 : Nat) : Int)) R) (hE : (fbAt b s5 n).2.1 ≠ 0 → R = ([], (fbAt b s5 n).2.1)) :
    ∀ d (j : Nat), j + d = n → Ev (fun k => bandplanref30_Decode.l1 k b (m : Int) ((fbAt b s5 j).2.2 : Int) (fbAt b s5 j).2.1 (out.map ofBid) (i : Int) (n : Int) (j : Int) f0 f1 (fbAt b s5 j).1) R := by
  intro d
  induction d with
  | zero =>
    intro j hj
    obtain rfl : j = n := by omega
    refine Ev.step (fun _ => bandplanref30_Decode.l1.eq_2 ..) ?_
    simp only [if_neg (show ¬ (j : Int) < (j : Int) by omega)]
    by_cases he : (fbAt b s5 j).2.1 = 0
    · simp only [if_pos he, if_pos (show (out.map ofBid).length < 3518437208883 by rw [List.length_map]; omega)]
      rw [wrap_s i (by omega)]
      have := hR he
      rw [List.map_append] at this
      exact this
    · simp only [if_neg he]
      rw [hE he]; exact Ev.now _
  | succ d ih =>
    intro j hj
    have hs := ih (j + 1) (by omega)
    refine Ev.step (fun _ => bandplanref30_Decode.l1.eq_2 ..) ?_
    simp only [if_pos (show (j : Int) < (n : Int) by omega)]
    by_cases he : (fbAt b s5 j).2.1 = 0
    · simp only [if_pos he]
      have hu := u_ev b (fbAt b s5 j).2.2 hl (fbAt_le b s5 h5 j) hby
      rw [show ((0 : Int), (fbAt b s5 j).2.2) = (fbAt b s5 j).2 by rw [← he]] at hu
      refine Ev.bind hu ?_
      simp only [if_pos (show (fbAt b s5 j).1.length < 17592186044416 by rw [fbAt_len]; omega)]
      rw [wrap_s j (by omega)]
      exact hs
    · simp only [if_neg he]
      have hst := fbAt_more b s5 j he (d + 1)
      rw [show j + (d + 1) = n by omega] at hst
      rw [hE (by rw [hst]; exact he), hst]
      exact Ev.now _
theorem l0_ev (hm : m ≤ 512) (s1 : Int × Nat) : ∀ d (i : Nat), i + d = m → (decAt b s1 i).2.1 = 0 → (decAt b s1 i).2.2 ≤ b.length →
    Ev (fun k => bandplanref30_Decode.l0 k b (m : Int) ((decAt b s1 i).2.2 : Int) ((decAt b s1 i).1.map ofBid) (i : Int)) (finish b (decAt b s1 m)) := by
  intro d
  induction d with
  | zero =>
    intro i hi he hp
    obtain rfl : i = m := by omega
    refine Ev.step (fun _ => bandplanref30_Decode.l0.eq_2 ..) ?_
    simp only [if_neg (show ¬ (i : Int) < (i : Int) by omega)]
    unfold finish
    rw [if_neg (by simp [he])]
    by_cases q : ((decAt b s1 i).2.2 : Int) < (b.length : Int)
    · simp only [if_pos q]; exact Ev.now _
    · simp only [if_neg q]
      have hv := validBids_ev ((decAt b s1 i).1.map ofBid) (by rw [List.length_map, decAt_len]; omega)
      rw [map_toBid] at hv
      refine Ev.bind hv ?_
      cases validBids (decAt b s1 i).1 with
      | true => simp only [if_true]; exact Ev.now _
      | false => simp only [Bool.false_eq_true, if_false]; exact Ev.now _
  | succ d ih =>
    intro i hi he hp
    have hN : decAt b s1 (i + 1) = ((decAt b s1 i).1 ++ [bidOf b (decAt b s1 i).2], bidS b (decAt b s1 i).2) := rfl
    have hol : (decAt b s1 i).1.length ≤ 512 := by rw [decAt_len]; omega
    have hmore := decAt_more b s1 (i + 1)
    rw [hN] at hmore
    have hih : (bidS b (decAt b s1 i).2).1 = 0 → Ev (fun k => bandplanref30_Decode.l0 k b (m : Int) ((bidS b (decAt b s1 i).2).2 : Int) (((decAt b s1 i).1 ++ [bidOf b (decAt b s1 i).2]).map ofBid) ((i + 1 : Nat) : Int)) (finish b (decAt b s1 m)) := fun h0 => by
      have := ih (i + 1) (by omega) (by rw [hN]; exact h0) (by rw [hN]; exact bidS_le b _ hp)
      rw [hN] at this
      exact this
    have hie : (bidS b (decAt b s1 i).2).1 ≠ 0 → finish b (decAt b s1 m) = ([], (bidS b (decAt b s1 i).2).1) := fun h0 => by
      have := hmore h0 d
      rw [show i + 1 + d = m by omega] at this
      unfold finish
      rw [if_pos (by rw [this]; exact h0), this]
    clear ih hN hmore
    generalize finish b (decAt b s1 m) = R at hih hie
    generalize (decAt b s1 i).1 = out at hih hol
    generalize hsd : (decAt b s1 i).2 = s at hih hie he hp
    clear hsd
    refine Ev.step (fun _ => bandplanref30_Decode.l0.eq_2 ..) ?_
    simp only [if_pos (show (i : Int) < (m : Int) by omega)]
    have hu := u_ev b s.2 hl hp hby
    rw [show ((0 : Int), s.2) = s by rw [← he]] at hu
    refine Ev.bind hu ?_
    have b0 : bidOf b s = ⟨uR b s, uR b (uS b s), (fbAt b (cS 3 b (uS b (uS b s))) (cR 3 b (uS b (uS b s))).toNat).1⟩ := rfl
    have b1 : bidS b s = (fbAt b (cS 3 b (uS b (uS b s))) (cR 3 b (uS b (uS b s))).toNat).2 := rfl
    rw [b0, b1] at hih
    rw [b1] at hie
    have l1 := uS_le b s hp
    have l2 := uS_le b _ l1
    have l3 := cS_le 3 b _ l2
    have hcr := cR_le (lim := 3) (b := b) (uS b (uS b s)) (by decide) hby
    -- the ends of the three ways
    have tail : ∀ (s5 : Int × Nat), s5 = cS 3 b (uS b (uS b s)) → ∀ n : Nat, cR 3 b (uS b (uS b s)) = (n : Int) → Ev (fun k => bandplanref30_Decode.j2 k b (m : Int) (s5.2 : Int) s5.1 (out.map ofBid) (i : Int) (n : Int) (uR b s) (uR b (uS b s))) R := fun s5 h5 n hn => by
      refine Ev.step (fun _ => bandplanref30_Decode.j2.eq_2 ..) ?_
      rw [hn, ← h5, show ((n : Int)).toNat = n by omega] at hih hie
      exact l1_ev b hl hby m i out (uR b s) (uR b (uS b s)) s5 (by rw [h5]; exact l3) n (by omega) hol (by omega) R hih hie n 0 (Nat.zero_add _)
    obtain ⟨n, hn⟩ : ∃ n : Nat, cR 3 b (uS b (uS b s)) = (n : Int) := ⟨(cR 3 b (uS b (uS b s))).toNat, by omega⟩
    by_cases e1 : (uS b s).1 = 0
    · simp only [if_pos e1]
      have hu2 := u_ev b (uS b s).2 hl l1 hby
      rw [show ((0 : Int), (uS b s).2) = uS b s by rw [← e1]] at hu2
      refine Ev.bind hu2 ?_
      refine Ev.step (fun _ => bandplanref30_Decode.j1.eq_2 ..) ?_
      by_cases e2 : (uS b (uS b s)).1 = 0
      · simp only [if_pos e2]
        have hc := c_ev b (uS b (uS b s)).2 3 (by decide) hl l2 hby (fun c hc => by have := numF_err 63 b _ _ _ _ c rfl hc; omega)
        rw [show ((0 : Int), (uS b (uS b s)).2) = uS b (uS b s) by rw [← e2]] at hc
        refine Ev.bind hc ?_
        have := tail _ rfl n hn
        rw [← hn] at this
        exact this
      · simp only [if_neg e2]
        have hk := cS_stick 3 b _ e2
        have := tail _ hk.1.symm 0 hk.2
        exact this
    · simp only [if_neg e1]
      have hk1 := uS_stick b _ e1
      have hk := cS_stick 3 b _ e1
      refine Ev.step (fun _ => bandplanref30_Decode.j1.eq_2 ..) ?_
      simp only [if_neg e1]
      have := tail (uS b s) (by rw [hk1.1, hk.1]) 0 (by rw [hk1.1, hk.2]; rfl)
      rw [hk1.2] at this
      exact this
end
theorem decode_ev (b : List Int) (hl : b.length < 1000000000) (hby : ∀ x ∈ b, 0 ≤ x ∧ x < 256) : Ev (fun k => bandplanref30_Decode.f k b) ((decL b).map ofBid, decErr b) := by
  unfold bandplanref30_Decode.f
  have hc := c_ev b 0 512 (by decide) hl (Nat.zero_le _) hby (fun c hc => by have := numF_err 63 b _ _ _ _ c rfl hc; omega)
  have hcr := cR_le (lim := 512) (b := b) (0, 0) (by decide) hby
  have hle := cS_le 512 b (0, 0) (Nat.zero_le _)
  refine Ev.bind hc ?_
  have hA : decAll b = decAt b (cS 512 b (0, 0)) (cR 512 b (0, 0)).toNat := rfl
  have hfin : finish b (decAll b) = ((decL b).map ofBid, decErr b) := by
    by_cases he : (decAll b).2.1 = 0
    · by_cases q : (decAll b).2.2 = b.length
      · have hE : decE b = 0 := by unfold decE endE; rw [if_pos (.inr q), he]
        unfold finish decL decErr
        rw [hE, if_neg (by simp [he]), if_neg (by omega)]
        cases validBids (decAll b).1 with
        | true => simp
        | false => simp
      · have hb2 : (decAll b).2.2 ≤ b.length := by
          rw [hA]
          have : ∀ j, (decAt b (cS 512 b (0, 0)) j).2.2 ≤ b.length := fun j => by
            induction j with
            | zero => exact hle
            | succ j ih => exact bidS_le b _ ih
          exact this _
        have hE : decE b = 5 := by unfold decE endE; rw [if_neg (by intro h; rcases h with h | h; exact h he; exact q h)]
        unfold finish decL decErr
        rw [hE, if_neg (by simp [he]), if_pos (by omega)]
        simp
    · have hE : decE b = (decAll b).2.1 := by unfold decE endE; rw [if_pos (.inl he)]
      unfold finish decL decErr
      rw [hE, if_pos he, if_neg (fun h => he h.1), if_neg he]
      rfl
  rw [hA] at hfin
  generalize cS 512 b (0, 0) = s1 at hle hfin
  generalize cR 512 b (0, 0) = n at hcr hfin
  obtain ⟨m, rfl⟩ : ∃ m : Nat, n = (m : Int) := ⟨n.toNat, by omega⟩
  rw [show ((m : Int)).toNat = m by omega] at hfin
  by_cases he : s1.1 = 0
  · simp only [if_pos he]
    have := l0_ev b hl hby m (by omega) s1 m 0 (Nat.zero_add _) he hle
    rw [hfin] at this
    exact this
  · simp only [if_neg he]
    have hst := decAt_more b s1 0 he m
    rw [Nat.zero_add] at hst
    have hf := hfin
    unfold finish at hf
    rw [if_pos (by rw [hst]; exact he), hst] at hf
    rw [← hf]
    exact Ev.now _
theorem sameBids_refl (l : List SB) (hl : l.length < 1000000000) (hx : ∀ x ∈ l, x.f2.length < 1000000000) : Ev (fun k => bandplanref30_SameBids.f k l l) true := by
  have aux : ∀ d (i : Nat), i + d = l.length → Ev (fun k => bandplanref30_SameBids.l0 k l l (i : Int)) true := by
    intro d
    induction d with
    | zero =>
      intro i hi
      refine Ev.step (fun _ => bandplanref30_SameBids.l0.eq_2 ..) ?_
      simp only [if_neg (show ¬ (i : Int) < (l.length : Int) by omega)]
      exact Ev.now true
    | succ d ih =>
      intro i hi
      refine Ev.step (fun _ => bandplanref30_SameBids.l0.eq_2 ..) ?_
      simp only [if_pos (show (i : Int) < (l.length : Int) by omega), if_pos (show (0 : Int) ≤ (i : Int) by omega), if_true]
      rw [rdT_nat]
      refine Ev.bind (same_refl _ ?_) ?_
      · have := hx (l.getD i z37) (by rw [← getD_at l z37 i (by omega)]; exact List.getElem_mem _); omega
      simp only [if_true]
      rw [wrap_s i (by omega)]
      exact ih (i + 1) (by omega)
  unfold bandplanref30_SameBids.f
  simp only [if_true]
  exact aux l.length 0 (by omega)
end Go.Proofs.Ytmmmhkeecaangaa.Q
