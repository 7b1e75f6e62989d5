import Derived.Test.YtpbmfdflmmeghaaWq
namespace Go.Proofs.Ytpbmfdflmmeghaa.Wire
open Go.RowKit Go.Proofs.YtpbmfdflmmeghaaW.PrintWords Go.Proofs.YtpbmfdflmmeghaaW.PrintLast Go.Proofs.YtpbmfdflmmeghaaW.PrintMore
set_option linter.unusedVariables false
set_option linter.unusedSimpArgs false

theorem getD_mid (pre : List Int) (x : Int) (rest : List Int) : (pre ++ x :: rest).getD pre.length 0 = x := by simp [List.getD]

theorem numF_grp (B : Nat) (hB : B ≤ 64) (n : Nat) : ∀ (s : Nat) (acc : Int) (pre rest : List Int), s < B → n * 2 ^ s < 2 ^ B → (0 < s → 0 < n) →
    numF B (pre ++ (grp n ++ rest)) pre.length s acc = .ok (acc + (n : Int) * 2 ^ s, pre.length + (grp n).length) := by
  induction n using Nat.strongRecOn with
  | ind n ih =>
    intro s acc pre rest hs hlt hz
    have hlt2 : n < 2 ^ (B - s) := by
      have e : 2 ^ B = 2 ^ (B - s) * 2 ^ s := by rw [← Nat.pow_add]; congr 1; omega
      rw [e] at hlt
      exact Nat.lt_of_mul_lt_mul_right hlt
    by_cases h : n < 128
    · rw [grp_small h, List.singleton_append]
      have hnb : ¬ (((B : Int) - s < 7 ∧ (n : Int) / 2 ^ (B - s) ≠ 0) ∨ ((B : Int) - s = 7 ∧ 128 ≤ (n : Int))) := by
        rintro (⟨h1, h2⟩ | ⟨h1, h2⟩)
        · apply h2
          have h3 : (n : Int) < 2 ^ (B - s) := by
            have := Int.ofNat_lt.2 hlt2
            rw [Int.natCast_pow] at this; exact this
          exact Int.ediv_eq_zero_of_lt (by omega) h3
        · omega
      rw [numF_last (by simp) (getD_mid pre n rest) hnb (by omega) (by omega)]
      rw [Int.emod_eq_of_lt (by omega) (by omega)]; rfl
    · rw [grp_big h, List.cons_append]
      have h8 : 8 ≤ B - s := by
        rcases Nat.lt_or_ge (B - s) 8 with h1 | h1
        · have := Nat.pow_le_pow_right (n := 2) (by decide) (show B - s ≤ 7 by omega)
          have e : 2 ^ 7 = 128 := by decide
          omega
        · exact h1
      have hnb : ¬ (((B : Int) - s < 7 ∧ ((n % 128 + 128 : Nat) : Int) / 2 ^ (B - s) ≠ 0) ∨ ((B : Int) - s = 7 ∧ 128 ≤ ((n % 128 + 128 : Nat) : Int))) := by
        rintro (⟨h1, h2⟩ | ⟨h1, h2⟩) <;> omega
      rw [numF_more (by simp) (getD_mid pre _ _) hnb (by omega)]
      have e1 : pre ++ ((n % 128 + 128 : Nat) : Int) :: (grp (n / 128) ++ rest) = (pre ++ [((n % 128 + 128 : Nat) : Int)]) ++ (grp (n / 128) ++ rest) := by simp
      have e2 : pre.length + 1 = (pre ++ [((n % 128 + 128 : Nat) : Int)]).length := by simp
      have e3 : n / 128 * 2 ^ (s + 7) < 2 ^ B := by
        have : n / 128 * 2 ^ (s + 7) ≤ n * 2 ^ s := by
          rw [Nat.pow_add, Nat.mul_comm (2 ^ s), ← Nat.mul_assoc]
          exact Nat.mul_le_mul_right _ (by have : (2 : Nat) ^ 7 = 128 := by decide
                                           omega)
        omega
      rw [e1, e2, ih (n / 128) (by omega) (s + 7) _ _ rest (by omega) e3 (by omega)]
      have e4 : ((n % 128 + 128 : Nat) : Int) % 128 = ((n % 128 : Nat) : Int) := by omega
      have e5 : (2 : Int) ^ (s + 7) = 128 * 2 ^ s := by rw [Int.pow_add, Int.mul_comm]; rfl
      have e6 : acc + ((n % 128 : Nat) : Int) * 2 ^ s + ((n / 128 : Nat) : Int) * 2 ^ (s + 7) = acc + (n : Int) * 2 ^ s := by
        rw [e5, ← Int.mul_assoc, Int.add_assoc, ← Int.add_mul]; congr 2; omega
      rw [e4, e6]
      simp only [List.length_append, List.length_cons, List.length_nil]
      congr 2; omega

theorem uintF_grp (n : Nat) (hn : n < 9223372036854775808) (pre rest : List Int) : uintF (pre ++ (grp n ++ rest)) pre.length = .ok ((n : Int), pre.length + (grp n).length) := by
  unfold uintF
  have h := numF_grp 63 (by decide) n 0 0 pre rest (by decide) (by simpa using hn) (by omega)
  simpa using h

theorem unz_zig (a : Int) : unz (zig a : Int) = a := by unfold unz zig; split <;> split <;> omega

theorem intF_grp (a : Int) (h0 : -9223372036854775808 ≤ a) (h1 : a ≤ 9223372036854775807) (pre rest : List Int) : intF (pre ++ (grp (zig a) ++ rest)) pre.length = .ok (a, pre.length + (grp (zig a)).length) := by
  unfold intF
  have h := numF_grp 64 (by decide) (zig a) 0 0 pre rest (by decide) (by simpa using zig_lt a h0 h1) (by omega)
  rw [h]
  simp [unz_zig]

theorem countF_grp (n : Nat) (limit : Int) (hl : (n : Int) ≤ limit) (hn : n < 9223372036854775808) (pre rest : List Int) : countF limit (pre ++ (grp n ++ rest)) pre.length = .ok ((n : Int), pre.length + (grp n).length) := by
  have h := uintF_grp n hn pre rest
  unfold uintF at h
  unfold countF
  rw [h]
  simp only
  rw [if_neg (by omega), if_neg (by omega)]

theorem bytesF_grp (b : List Int) (limit : Int) (hl : (b.length : Int) ≤ limit) (hn : b.length < 9223372036854775808) (pre rest : List Int) :
    bytesF limit (pre ++ (grp b.length ++ b ++ rest)) pre.length = .ok (b, pre.length + (grp b.length ++ b).length) := by
  unfold bytesF
  rw [List.append_assoc, countF_grp b.length limit hl hn pre (b ++ rest)]
  simp only
  rw [if_neg (by simp only [List.length_append]; omega)]
  congr 2
  · rw [Int.toNat_natCast]
    have e : pre ++ (grp b.length ++ (b ++ rest)) = (pre ++ grp b.length) ++ (b ++ rest) := by simp
    have e2 : pre.length + (grp b.length).length = (pre ++ grp b.length).length := by simp
    rw [e, e2, ← List.append_assoc, show (pre ++ grp b.length).length + b.length = ((pre ++ grp b.length) ++ b).length by simp [Nat.add_assoc]]
    rw [List.take_left, List.drop_left]
  · rw [Int.toNat_natCast, List.length_append]; omega

theorem listF_zigs (l : List Int) (hr : ∀ x ∈ l, inI64 x) : ∀ (pre rest acc : List Int), listF (pre ++ (zigs l ++ rest)) l.length pre.length acc = .ok (acc ++ l, pre.length + (zigs l).length) := by
  induction l with
  | nil => intro pre rest acc; simp [listF, zigs]
  | cons a l ih =>
    intro pre rest acc
    have ha := hr a List.mem_cons_self
    simp only [List.length_cons, listF, zigs, List.append_assoc]
    rw [intF_grp a ha.1 ha.2 pre (zigs l ++ rest)]
    simp only
    have e : pre ++ (grp (zig a) ++ (zigs l ++ rest)) = (pre ++ grp (zig a)) ++ (zigs l ++ rest) := by simp
    rw [e, show pre.length + (grp (zig a)).length = (pre ++ grp (zig a)).length by simp, ih (fun x hx => hr x (List.mem_cons_of_mem _ hx))]
    simp only [List.length_append, List.append_assoc, List.singleton_append]
    congr 2; omega

theorem intsF_grp (l : List Int) (hr : ∀ x ∈ l, inI64 x) (limit : Int) (hl : (l.length : Int) ≤ limit) (hn : l.length < 9223372036854775808) (pre rest : List Int) :
    intsF limit (pre ++ (grp l.length ++ zigs l ++ rest)) pre.length = .ok (l, pre.length + (grp l.length ++ zigs l).length) := by
  unfold intsF
  rw [List.append_assoc, countF_grp l.length limit hl hn pre (zigs l ++ rest)]
  simp only [Int.toNat_natCast]
  have e : pre ++ (grp l.length ++ (zigs l ++ rest)) = (pre ++ grp l.length) ++ (zigs l ++ rest) := by simp
  rw [e, show pre.length + (grp l.length).length = (pre ++ grp l.length).length by simp, listF_zigs l hr]
  simp only [List.length_append, List.nil_append]
  congr 2; omega

theorem zigs_byte (l : List Int) : ∀ x ∈ zigs l, 0 ≤ x ∧ x < 256 := by
  induction l with
  | nil => intro x hx; simp [zigs] at hx
  | cons a l ih =>
    intro x hx
    simp only [zigs, List.mem_append] at hx
    exact hx.elim (grp_byte _ x) (ih x)
end Go.Proofs.Ytpbmfdflmmeghaa.Wire
