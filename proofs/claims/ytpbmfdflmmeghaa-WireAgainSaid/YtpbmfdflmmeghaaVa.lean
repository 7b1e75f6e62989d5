import Derived.Test.YtpbmfdflmmeghaaWy
namespace Go.Proofs.Ytpbmfdflmmeghaa.Wire
open Go.RowKit Go.Proofs.YtpbmfdflmmeghaaW.PrintWords Go.Proofs.YtpbmfdflmmeghaaW.PrintLast Go.Proofs.YtpbmfdflmmeghaaW.PrintMore
set_option linter.unusedVariables false
set_option linter.unusedSimpArgs false

/-- A value of the law: its kind, number, text and list. -/
structure Val where
  f0 : Int
  f1 : Int
  f2 : List Int
  f3 : List Int
def zVal : Val := ⟨0, 0, [], []⟩
def kVal : Kd Val := Kd.iso (Kd.pair (Kd.int .u8) (Kd.pair (Kd.int .i64) (Kd.pair (Kd.slice 5 (Kd.int .u8)) (Kd.slice 3 (Kd.int .i64))))) (fun x : Val => (x.f0, x.f1, x.f2, x.f3))
theorem kVal_open {w : World} {x : Val} {cs : List Value} (h : kVal.K w x cs) : ∃ A2 c2 A3 c3, cs = [.int .u8 x.f0, .int .i64 x.f1, .slice A2 x.f2.length c2, .slice A3 x.f3.length c3] ∧ x.f2.length ≤ c2 ∧ (Kd.int .u8).C w A2 x.f2.length x.f2 ∧ x.f3.length ≤ c3 ∧ (Kd.int .i64).C w A3 x.f3.length x.f3 := by
  obtain ⟨_, _, rfl, rfl, ⟨_, _, rfl, rfl, ⟨_, _, rfl, ⟨A2, c2, rfl, l2, g2⟩, ⟨A3, c3, rfl, l3, g3⟩⟩⟩⟩ := h
  exact ⟨A2, c2, A3, c3, rfl, l2, g2, l3, g3⟩
theorem at_Val {w : World} {A : Option Addr} {n : Nat} {xs : List Val} (h : Kd.C kVal w A n xs) (i : Nat) (h1 : i < n) : ∃ ad A2 c2 A3 c3, A = some ad ∧ w.cell? (ad.add (i * 4)) = some (.int .u8 (xs.getD i zVal).f0) ∧ w.cell? ⟨(ad.add (i * 4)).block, (ad.add (i * 4)).off + 1, none⟩ = some (.int .i64 (xs.getD i zVal).f1) ∧ w.cell? ⟨(ad.add (i * 4)).block, (ad.add (i * 4)).off + 2, none⟩ = some (.slice A2 (xs.getD i zVal).f2.length c2) ∧ w.cell? ⟨(ad.add (i * 4)).block, (ad.add (i * 4)).off + 3, none⟩ = some (.slice A3 (xs.getD i zVal).f3.length c3) ∧ (Kd.int .u8).C w A2 (xs.getD i zVal).f2.length (xs.getD i zVal).f2 ∧ (Kd.int .i64).C w A3 (xs.getD i zVal).f3.length (xs.getD i zVal).f3 := by
  obtain ⟨ad, c, e, _, hK, hc0⟩ := Kd.C_get h zVal (i : Int) (by omega) (by omega)
  rw [Int.toNat_natCast] at hK hc0
  have hc : ∀ j u, c[j]? = some u → w.cell? (ad.add (i * 4 + j)) = some u := hc0
  obtain ⟨A2, c2, A3, c3, rfl, l2, g2, l3, g3⟩ := kVal_open hK
  exact ⟨ad, A2, c2, A3, c3, e, hc 0 _ rfl, by rw [← add_field _ _ 1 (by omega)]; exact hc 1 _ rfl, by rw [← add_field _ _ 2 (by omega)]; exact hc 2 _ rfl, by rw [← add_field _ _ 3 (by omega)]; exact hc 3 _ rfl, g2, g3⟩

/-- What every value of the program meets. -/
structure ValOk (x : Val) : Prop where
  k0 : 0 ≤ x.f0
  k1 : x.f0 < 256
  n0 : -9223372036854775808 ≤ x.f1
  n1 : x.f1 ≤ 9223372036854775807
  tx : ∀ b ∈ x.f2, 0 ≤ b ∧ b < 256
  li : ∀ b ∈ x.f3, inI64 b
def Small (x : Val) : Prop := x.f2.length ≤ 200 ∧ x.f3.length ≤ 50

theorem large_calls (w : World) (l : List Val) (A : Option Addr) (c : Nat) (hC : Kd.C kVal w A l.length l) :
    Calls Try.prog 9 #[.slice A l.length c] w (fun r w' => (∃ b, r = .returned (.bool b) ∧ (b = false → l.length ≤ 20 ∧ ∀ x ∈ l, Small x)) ∧ w = w') := by
  by_cases hl : 20 < l.length
  · have d1 : decide (20 < (l.length : Int)) = true := decide_eq_true (by omega)
    clear hC
    go_enter Try.func9, Try.ntmps9
    go_wp2
    go_ret
    exact ⟨⟨true, rfl, fun h => by cases h⟩, rfl⟩
  have d1 : decide (20 < (l.length : Int)) = false := decide_eq_false (by omega)
  have HC := Lib.hid hC
  clear hC
  go_enter Try.func9, Try.ntmps9
  go_wp2_with fail
  go_loopg [3] l.length (fun g v3 w' => ∃ k : Nat, v3 = .int .i64 k ∧ k ≤ l.length ∧ Aside0 (g + k = l.length) ∧ Aside0 (∀ x ∈ l.take k, Small x) ∧ w' = w)
  case atStart => exact ⟨0, rfl, Nat.zero_le _, ⟨rfl⟩, ⟨by simp⟩, rfl⟩
  case round =>
    obtain ⟨k, rfl, hk, HM, HS, rfl⟩ := hrel
    by_cases h : k < l.length
    · have c1 : decide ((k : Int) < (l.length : Int)) = true := decide_eq_true (by omega)
      obtain ⟨ad, A2, c2, A3, c3, hA, e0, e1, e2, e3, _, _⟩ := at_Val HC.out k h
      subst hA
      have HT := Lib.hid (show ∀ x ∈ l.take (k + 1), (x ∈ l.take k ∨ x = l.getD k zVal) from fun x hx => by
        rw [List.take_add_one] at hx
        rcases List.mem_append.1 hx with h | h
        · exact .inl h
        · right
          rw [List.getElem?_eq_getElem (by omega)] at h
          simp at h
          simp [List.getD, h]
          rw [List.getElem?_eq_getElem (by omega)]; rfl)
      generalize l.getD k zVal = x at e0 e1 e2 e3 HT
      by_cases h2 : 200 < x.f2.length
      · have d2 : decide (200 < (x.f2.length : Int)) = true := decide_eq_true (by omega)
        go_wp2_with fail
        go_ret
        exact ⟨⟨true, rfl, fun h => by cases h⟩, rfl⟩
      have d2 : decide (200 < (x.f2.length : Int)) = false := decide_eq_false (by omega)
      by_cases h3 : 50 < x.f3.length
      · have d3 : decide (50 < (x.f3.length : Int)) = true := decide_eq_true (by omega)
        go_wp2_with fail
        go_ret
        exact ⟨⟨true, rfl, fun h => by cases h⟩, rfl⟩
      have d3 : decide (50 < (x.f3.length : Int)) = false := decide_eq_false (by omega)
      go_wp2_with fail
      go_roundg (l.length - (k + 1))
      case measure => have := HM.out; omega
      case rel => exact ⟨k + 1, by go_num, by omega, ⟨by omega⟩, ⟨fun x hx => (HT.out x hx).elim (HS.out x) (fun h => by subst h; exact ⟨by omega, by omega⟩)⟩, rfl⟩
    · have c1 : decide ((k : Int) < (l.length : Int)) = false := decide_eq_false (by omega)
      go_wp2_with fail
      go_ret
      refine ⟨⟨false, rfl, fun _ => ⟨by omega, ?_⟩⟩, rfl⟩
      have h := HS.out
      rw [List.take_of_length_le (by omega)] at h
      exact h
end Go.Proofs.Ytpbmfdflmmeghaa.Wire
