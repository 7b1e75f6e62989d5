/- OptionHolds: the law's walk: it answers true, and what was there stands. Conditions: the bytes are bytes. -/
import Derived.Test.YtmmmhkeecaangaaHp
import Derived.Test.YtmmmhkeecaangaaQx12
namespace Go.Proofs.Ytmmmhkeecaangaa.Q
open Go.RowKit Go.Maps Go.Proofs.YtmmmhkeecaangaaW.PrintWords Go.Proofs.YtmmmhkeecaangaaW.PrintLast Go.Proofs.YtmmmhkeecaangaaW.PrintMore Go.Proofs.Ytmmmhkeecaangaa.Wire
set_option linter.unusedVariables false
set_option linter.unusedSimpArgs false

/-- What stands all the time: the bid's block and the three lists. -/
structure Hd (w W : World) (s p : Int) (A : Option Addr) (cp : Nat) (l : List Int) (F : Option Addr) (fs : List Int) (S : Option Addr) (bs : List Int) : Prop where
  b : Below w.heap.size w W
  g : W.heap[w.heap.size]? = some (.cells #[.int .i64 s, .int .i64 p, .slice A l.length cp] 37 (0, 0))
  l : (Kd.int .i64).C W A l.length l
  f : (Kd.int .i64).C W F fs.length fs
  s : (Kd.int .u8).C W S bs.length bs
theorem Hd.step {w W W' : World} {s p : Int} {A : Option Addr} {cp : Nat} {l : List Int} {F : Option Addr} {fs : List Int} {S : Option Addr} {bs : List Int} (h : Hd w W s p A cp l F fs S bs) (hb : Below W.heap.size W W') : Hd w W' s p A cp l F fs S bs := by
  have hlt : w.heap.size < W.heap.size := (Array.getElem?_eq_some_iff.1 h.g).1
  exact ⟨below_step h.b hb, by rw [hb.block _ hlt]; exact h.g, Kd.C_below h.l hb, Kd.C_below h.f hb, Kd.C_below h.s hb⟩
theorem Hd.c0 {w W : World} {s p : Int} {A : Option Addr} {cp : Nat} {l : List Int} {F : Option Addr} {fs : List Int} {S : Option Addr} {bs : List Int} (h : Hd w W s p A cp l F fs S bs) : W.cell? ⟨w.heap.size, 0, none⟩ = some (.int .i64 s) ∧ W.cell? ⟨w.heap.size, 1, none⟩ = some (.int .i64 p) ∧ W.cell? ⟨w.heap.size, 2, none⟩ = some (.slice A l.length cp) :=
  ⟨(blk_cell h.g 0).trans rfl, (blk_cell h.g 1).trans rfl, (blk_cell h.g 2).trans rfl⟩
theorem C_ofBid {w : World} {A : Option Addr} {n : Nat} {l : List Bid} (h : Kd.C kBid w A n l) : Kd.C k37 w A n (l.map ofBid) := by
  obtain ⟨h1, h2, h3⟩ := h
  refine ⟨by rw [List.length_map]; exact h1, h2, fun hn => ?_⟩
  obtain ⟨ad, hA, hc⟩ := h3 hn
  refine ⟨ad, hA, fun j p hj => ?_⟩
  rw [List.getElem?_map] at hj
  obtain ⟨x, hx, rfl⟩ := Option.map_eq_some_iff.1 hj
  obtain ⟨c, hl, hK, hcell⟩ := hc j x hx
  exact ⟨c, hl, hK, hcell⟩
theorem has_c (w : World) (A : Option Addr) (c : Nat) (l : List Int) (a : Int) (hC : (Kd.int .i64).C w A l.length l) (hc : l.length ≤ c) (hl : l.length < 4611686018427387904) :
    Calls Try.prog 31 #[.slice A l.length c, .int .i64 a] w (fun r w' => r = .returned (.bool (l.contains a)) ∧ Below w.heap.size w w') := by
  obtain ⟨k, h⟩ := Ev.rounds (has_ev l a hl)
  refine (bandplanref30_Has.calls k A c l a _ w hC hc h).mono ?_
  rintro e w' ⟨rfl, hd⟩
  exact ⟨rfl, hd.below⟩
theorem same_c (w : World) (A B : Option Addr) (c d : Nat) (x : Bid) (hA : Kd.C kBid w A 1 [x]) (hc : 1 ≤ c) (hB : Kd.C kBid w B 1 [x]) (hd : 1 ≤ d) (hx : x.f2.length ≤ 3) :
    Calls Try.prog 30 #[.slice A 1 c, .slice B 1 d] w (fun r w' => r = .returned (.bool true) ∧ Below w.heap.size w w') := by
  obtain ⟨k, h⟩ := Ev.rounds (sameBids_refl [ofBid x] (by simp) (fun y hy => by
    simp only [List.mem_singleton] at hy
    subst hy
    show x.f2.length < 1000000000
    omega))
  refine (bandplanref30_SameBids.calls k A c [ofBid x] B d [ofBid x] _ w (C_ofBid hA) hc (C_ofBid hB) hd h).mono ?_
  rintro e w' ⟨rfl, hb⟩
  exact ⟨rfl, hb⟩
theorem named_c (w : World) (s p : Int) (A : Option Addr) (c : Nat) (l : List Int) (hC : (Kd.int .i64).C w A l.length l) (hc : l.length ≤ c) (hl : l.length < 1000000000) :
    Calls Try.prog 32 #[.agg #[.int .i64 s, .int .i64 p, .slice A l.length c]] w (fun r w' => ∃ A' c', r = .returned (.slice A' (p :: l).length c') ∧ (p :: l).length ≤ c' ∧ (Kd.int .i64).C w' A' (p :: l).length (p :: l) ∧ Below w.heap.size w w') := by
  refine (bandplanref30_Named.calls s p A c l _ w hC hc (named_eq s p l hl)).mono ?_
  rintro e w' ⟨v, rfl, hR, hb⟩
  obtain ⟨A', c', rfl⟩ := Kd.R_slice hR
  have := Kd.R_reads' hR
  exact ⟨A', c', rfl, this.2.1, this.2.2, hb⟩
theorem encBytes_byte (l : List Bid) : ∀ x ∈ encBytes l, 0 ≤ x ∧ x < 256 := by
  intro x hx
  unfold encBytes bidBytes at hx
  simp only [List.mem_append, List.mem_flatMap] at hx
  rcases hx with h | ⟨b, _, h | h | h | ⟨o, _, h⟩⟩
  all_goals exact grp_byte _ x h
theorem encBytes_len {x : Bid} (h : validB x.f0 x.f1 x.f2 = true) : (encBytes [x]).length ≤ 1000 := by
  obtain ⟨⟨h0, h1⟩, h2, h3⟩ := validB_facts h
  have g0 := grp_len2 (n := x.f0.toNat) (by omega)
  have g1 := grp_len2 (n := x.f1.toNat) (by have := h3 x.f1 (by simp); omega)
  have g2 := grp_len2 (n := x.f2.length) (by omega)
  have g3 := grp_len2 (n := 1) (by decide)
  have hf : ∀ (r : List Int), (∀ y ∈ r, 0 ≤ y ∧ y ≤ 3) → (r.flatMap (fun o => grp o.toNat)).length ≤ 2 * r.length := by
    intro r
    induction r with
    | nil => intro _; simp
    | cons y r ih =>
      intro hr
      have a := hr y (by simp)
      have g := grp_len2 (n := y.toNat) (by omega)
      have i := ih (fun z hz => hr z (by simp [hz]))
      rw [List.flatMap_cons, List.length_append, List.length_cons]
      omega
  have hl := hf x.f2 (fun y hy => h3 y (by simp [hy]))
  unfold encBytes bidBytes
  simp only [List.flatMap_cons, List.flatMap_nil, List.append_nil, List.length_append, List.length_singleton]
  omega
theorem enc_c (w : World) (A : Option Addr) (c : Nat) (l : List Bid) (hC : Kd.C kBid w A l.length l) (hv : validBids l = true) (hl : l.length ≤ 1000) :
    Calls Try.prog 26 #[.slice A l.length c] w (fun r w' => ∃ A' c', r = .returned (.tuple #[.slice A' (encBytes l).length c', .int .i64 0]) ∧ (encBytes l).length ≤ c' ∧ (Kd.int .u8).C w' A' (encBytes l).length (encBytes l) ∧ Below w.heap.size w w') := by
  have he := encS_ok l hv (by omega)
  refine (encode_calls w w A c l (Below.refl _ _) hC (by omega)).mono ?_
  rintro r w' ⟨v, hr, hR, hB, hK⟩
  rw [he, if_pos hv] at hr
  rw [he, if_pos ⟨hv, rfl⟩] at hR
  obtain ⟨A', c', rfl⟩ := Kd.R_slice hR
  have := Kd.R_reads' hR
  exact ⟨A', c', hr, this.2.1, this.2.2, hB⟩
theorem dec_c (w : World) (A : Option Addr) (c : Nat) (b : List Int) (hC : (Kd.int .u8).C w A b.length b) (hl : b.length ≤ 1000000) (hby : ∀ x ∈ b, 0 ≤ x ∧ x < 256) :
    Calls Try.prog 28 #[.slice A b.length c] w (fun r w' => ∃ A' c', r = .returned (.tuple #[.slice A' (decL b).length c', .int .i64 (decErr b)]) ∧ (decL b).length ≤ c' ∧ Kd.C kBid w' A' (decL b).length (decL b) ∧ Below w.heap.size w w') := by
  refine (decode_calls w w A c b (Below.refl _ _) hC (by omega) hby).mono ?_
  rintro r w' ⟨v, hr, hS, hB, hK⟩
  obtain ⟨A', c', rfl⟩ := Kd.S_slice hS
  have := Kd.S_reads' hS
  exact ⟨A', c', hr, this.2.1, this.2.2, hB⟩
end Go.Proofs.Ytmmmhkeecaangaa.Q
