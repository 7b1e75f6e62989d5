/- Contracts of the functions that the statements reach, part 4: what each call answers and leaves. Conditions: those that each theorem states. -/
import Derived.Test.YtenhigpeafaidaaGb3
-- Tx2
-- Printed by a program of this session's over the kit's printer, with functions given from outside. Lean checks it.
namespace Go.Proofs.Ytenhigpeafaidaa.T
open Go.RowKit Go.Proofs.YtenhigpeafaidaaW.PrintWords Go.Proofs.YtenhigpeafaidaaW.PrintLast Go.Proofs.YtenhigpeafaidaaW.PrintMore Go.Proofs.Ytenhigpeafaidaa.Q
attribute [local go_sem] max2_int min2_int max_two min_two max_three min_three max_four min_four   -- for this text's walks alone
set_option linter.unusedVariables false
set_option linter.unusedSimpArgs false

/-! ### band_Problem: function 20 -/
mutual
def band_Problem.j0 : Nat → List (S78) → Bool → List (S84) → List (S97) → List (S99) → Int → Int → Int → Int → Int → Int → Int → Int → Int → Option ((List (S86)) × (List (S84)) × (List (S97)) × (List (S99)) × Int)
 | 0, _, _, _, _, _, _, _, _, _, _, _, _, _, _ => none
 | k + 1, x0, x40, x102000, x102001, x102002, x103000, x114000, x114001, x114002, x114003, x114004, x114005, x114006, x114007 => if x40 = true then (some (([] : List (S86)), ([] : List (S84)), ([] : List (S97)), ([] : List (S99)), 2)) else (band_Problem.l0 k x0 (x0.length : Int) 0 x102000 x102001 x102002 x103000 x114000 x114001 x114002 x114003 x114004 x114005 x114006 x114007 ([] : List (S86)))
def band_Problem.l0 : Nat → List (S78) → Int → Int → List (S84) → List (S97) → List (S99) → Int → Int → Int → Int → Int → Int → Int → Int → Int → List (S86) → Option ((List (S86)) × (List (S84)) × (List (S97)) × (List (S99)) × Int)
 | 0, _, _, _, _, _, _, _, _, _, _, _, _, _, _, _, _ => none
 | k + 1, x42, x43, x44, x102000, x102001, x102002, x103000, x114000, x114001, x114002, x114003, x114004, x114005, x114006, x114007, x117000 => if x44 < x43 then (if 0 ≤ x44 then (if x44 < (x42.length : Int) then (band_Problem.l1 k x42 x43 x44 ((rd_T78 x42 x44).f1) (((rd_T78 x42 x44).f1).length : Int) 0 x102000 x102001 x102002 x103000 x114000 x114001 x114002 x114003 x114004 x114005 x114006 x114007 x117000 ((rd_T78 x42 x44).f0) ([] : List Int)) else (none)) else (none)) else (band_Problem.l2 k x102000 (x102000.length : Int) 0 x102000 x102001 x102002 x114000 x114001 x114002 x114003 x114004 x114005 x114006 x114007 x117000 ([] : List (S84)))
def band_Problem.l1 : Nat → List (S78) → Int → Int → List Int → Int → Int → List (S84) → List (S97) → List (S99) → Int → Int → Int → Int → Int → Int → Int → Int → Int → List (S86) → Int → List Int → Option ((List (S86)) × (List (S84)) × (List (S97)) × (List (S99)) × Int)
 | 0, _, _, _, _, _, _, _, _, _, _, _, _, _, _, _, _, _, _, _, _, _ => none
 | k + 1, x42, x43, x44, x52, x53, x54, x102000, x102001, x102002, x103000, x114000, x114001, x114002, x114003, x114004, x114005, x114006, x114007, x117000, x120000, x120001 => if x54 < x53 then (if 0 ≤ x54 then (if x54 < (x52.length : Int) then ((band_Channels.f (rd x52 x54) x103000).bind fun bt121 => (if x120001.length + bt121.1.length < 17592186044416 then (band_Problem.l1 k x42 x43 x44 x52 x53 (wrap64 (x54 + 1)) x102000 x102001 x102002 x103000 x114000 x114001 x114002 x114003 x114004 x114005 x114006 x114007 x117000 x120000 (x120001 ++ bt121.1)) else (none))) else (none)) else (none)) else (if x117000.length < 4398046511104 then (band_Problem.l0 k x42 x43 (wrap64 (x44 + 1)) x102000 x102001 x102002 x103000 x114000 x114001 x114002 x114003 x114004 x114005 x114006 x114007 (x117000 ++ [(⟨x120000, x120001⟩ : S86)])) else (none))
def band_Problem.l2 : Nat → List (S84) → Int → Int → List (S84) → List (S97) → List (S99) → Int → Int → Int → Int → Int → Int → Int → Int → List (S86) → List (S84) → Option ((List (S86)) × (List (S84)) × (List (S97)) × (List (S99)) × Int)
 | 0, _, _, _, _, _, _, _, _, _, _, _, _, _, _, _, _ => none
 | k + 1, x78, x79, x80, x102000, x102001, x102002, x114000, x114001, x114002, x114003, x114004, x114005, x114006, x114007, x117000, x117001 => if x80 < x79 then (if 0 ≤ x80 then (if x80 < (x78.length : Int) then ((bitset_Set_Has.f x114000 x114001 x114002 x114003 x114004 x114005 x114006 x114007 ((rd_T84 x78 x80).f0)).bind fun t133 => (if t133 = true then ((bitset_Set_Has.f x114000 x114001 x114002 x114003 x114004 x114005 x114006 x114007 ((rd_T84 x78 x80).f1)).bind fun t134 => (if t134 = true then (if x117001.length < 3518437208883 then (band_Problem.l2 k x78 x79 (wrap64 (x80 + 1)) x102000 x102001 x102002 x114000 x114001 x114002 x114003 x114004 x114005 x114006 x114007 x117000 (x117001 ++ [(⟨(rd_T84 x78 x80).f0, (rd_T84 x78 x80).f1, (rd_T84 x78 x80).f2, (rd_T84 x78 x80).f3, (rd_T84 x78 x80).f4⟩ : S84)])) else (none)) else (band_Problem.l2 k x78 x79 (wrap64 (x80 + 1)) x102000 x102001 x102002 x114000 x114001 x114002 x114003 x114004 x114005 x114006 x114007 x117000 x117001))) else (band_Problem.l2 k x78 x79 (wrap64 (x80 + 1)) x102000 x102001 x102002 x114000 x114001 x114002 x114003 x114004 x114005 x114006 x114007 x117000 x117001))) else (none)) else (none)) else (band_Problem.l3 k x102001 (x102001.length : Int) 0 x102000 x102001 x102002 x114000 x114001 x114002 x114003 x114004 x114005 x114006 x114007 x117000 x117001 ([] : List (S97)))
def band_Problem.l3 : Nat → List (S97) → Int → Int → List (S84) → List (S97) → List (S99) → Int → Int → Int → Int → Int → Int → Int → Int → List (S86) → List (S84) → List (S97) → Option ((List (S86)) × (List (S84)) × (List (S97)) × (List (S99)) × Int)
 | 0, _, _, _, _, _, _, _, _, _, _, _, _, _, _, _, _, _ => none
 | k + 1, x104, x105, x106, x102000, x102001, x102002, x114000, x114001, x114002, x114003, x114004, x114005, x114006, x114007, x117000, x117001, x117002 => if x106 < x105 then (if 0 ≤ x106 then (if x106 < (x104.length : Int) then ((bitset_Set_Has.f x114000 x114001 x114002 x114003 x114004 x114005 x114006 x114007 ((rd_T97 x104 x106).f0)).bind fun t140 => (if t140 = true then ((bitset_Set_Has.f x114000 x114001 x114002 x114003 x114004 x114005 x114006 x114007 ((rd_T97 x104 x106).f1)).bind fun t141 => (if t141 = true then (if x117002.length < 3518437208883 then (band_Problem.l3 k x104 x105 (wrap64 (x106 + 1)) x102000 x102001 x102002 x114000 x114001 x114002 x114003 x114004 x114005 x114006 x114007 x117000 x117001 (x117002 ++ [(⟨(rd_T97 x104 x106).f0, (rd_T97 x104 x106).f1, (rd_T97 x104 x106).f2, (rd_T97 x104 x106).f3, (rd_T97 x104 x106).f4⟩ : S97)])) else (none)) else (band_Problem.l3 k x104 x105 (wrap64 (x106 + 1)) x102000 x102001 x102002 x114000 x114001 x114002 x114003 x114004 x114005 x114006 x114007 x117000 x117001 x117002))) else (band_Problem.l3 k x104 x105 (wrap64 (x106 + 1)) x102000 x102001 x102002 x114000 x114001 x114002 x114003 x114004 x114005 x114006 x114007 x117000 x117001 x117002))) else (none)) else (none)) else (band_Problem.l4 k x102002 (x102002.length : Int) 0 x114000 x114001 x114002 x114003 x114004 x114005 x114006 x114007 x117000 x117001 x117002 ([] : List (S99)))
def band_Problem.l4 : Nat → List (S99) → Int → Int → Int → Int → Int → Int → Int → Int → Int → Int → List (S86) → List (S84) → List (S97) → List (S99) → Option ((List (S86)) × (List (S84)) × (List (S97)) × (List (S99)) × Int)
 | 0, _, _, _, _, _, _, _, _, _, _, _, _, _, _, _ => none
 | k + 1, x130, x131, x132, x114000, x114001, x114002, x114003, x114004, x114005, x114006, x114007, x117000, x117001, x117002, x117003 => if x132 < x131 then (if 0 ≤ x132 then (if x132 < (x130.length : Int) then ((bitset_Set_Has.f x114000 x114001 x114002 x114003 x114004 x114005 x114006 x114007 ((rd_T99 x130 x132).f0)).bind fun t147 => (if t147 = true then (if x117003.length < 4398046511104 then (band_Problem.l4 k x130 x131 (wrap64 (x132 + 1)) x114000 x114001 x114002 x114003 x114004 x114005 x114006 x114007 x117000 x117001 x117002 (x117003 ++ [(⟨(rd_T99 x130 x132).f0, (rd_T99 x130 x132).f1, (rd_T99 x130 x132).f2, (rd_T99 x130 x132).f3⟩ : S99)])) else (none)) else (band_Problem.l4 k x130 x131 (wrap64 (x132 + 1)) x114000 x114001 x114002 x114003 x114004 x114005 x114006 x114007 x117000 x117001 x117002 x117003))) else (none)) else (none)) else (some (x117000, x117001, x117002, x117003, 0))
end
def band_Problem.f (k : Nat) (l0 : List (S78)) (l1_0 : List (S84)) (l1_1 : List (S97)) (l1_2 : List (S99)) (a2_0 : Int) : Option ((List (S86)) × (List (S84)) × (List (S97)) × (List (S99)) × Int) := (band_valid.f l0).bind fun bt104 => (if bt104.2.2.2.2.2.2.2.2 = true then ((problem_ValidRules.f l1_0 l1_1 l1_2).bind fun t114 => (if t114 = true then ((band_Valid.f a2_0).bind fun t115 => (band_Problem.j0 k l0 (!t115) l1_0 l1_1 l1_2 a2_0 bt104.1 bt104.2.1 bt104.2.2.1 bt104.2.2.2.1 bt104.2.2.2.2.1 bt104.2.2.2.2.2.1 bt104.2.2.2.2.2.2.1 bt104.2.2.2.2.2.2.2.1)) else (band_Problem.j0 k l0 true l1_0 l1_1 l1_2 a2_0 bt104.1 bt104.2.1 bt104.2.2.1 bt104.2.2.2.1 bt104.2.2.2.2.1 bt104.2.2.2.2.2.1 bt104.2.2.2.2.2.2.1 bt104.2.2.2.2.2.2.2.1))) else (band_Problem.j0 k l0 true l1_0 l1_1 l1_2 a2_0 bt104.1 bt104.2.1 bt104.2.2.1 bt104.2.2.2.1 bt104.2.2.2.2.1 bt104.2.2.2.2.2.1 bt104.2.2.2.2.2.2.1 bt104.2.2.2.2.2.2.2.1))
theorem band_Problem.mono_l : ∀ k, (∀ y0 y1 y2 y3 y4 y5 y6 y7 y8 y9 y10 y11 y12 y13, LeO (band_Problem.j0 k y0 y1 y2 y3 y4 y5 y6 y7 y8 y9 y10 y11 y12 y13) (band_Problem.j0 (k + 1) y0 y1 y2 y3 y4 y5 y6 y7 y8 y9 y10 y11 y12 y13)) ∧ (∀ y0 y1 y2 y3 y4 y5 y6 y7 y8 y9 y10 y11 y12 y13 y14 y15, LeO (band_Problem.l0 k y0 y1 y2 y3 y4 y5 y6 y7 y8 y9 y10 y11 y12 y13 y14 y15) (band_Problem.l0 (k + 1) y0 y1 y2 y3 y4 y5 y6 y7 y8 y9 y10 y11 y12 y13 y14 y15)) ∧ (∀ y0 y1 y2 y3 y4 y5 y6 y7 y8 y9 y10 y11 y12 y13 y14 y15 y16 y17 y18 y19 y20, LeO (band_Problem.l1 k y0 y1 y2 y3 y4 y5 y6 y7 y8 y9 y10 y11 y12 y13 y14 y15 y16 y17 y18 y19 y20) (band_Problem.l1 (k + 1) y0 y1 y2 y3 y4 y5 y6 y7 y8 y9 y10 y11 y12 y13 y14 y15 y16 y17 y18 y19 y20)) ∧ (∀ y0 y1 y2 y3 y4 y5 y6 y7 y8 y9 y10 y11 y12 y13 y14 y15, LeO (band_Problem.l2 k y0 y1 y2 y3 y4 y5 y6 y7 y8 y9 y10 y11 y12 y13 y14 y15) (band_Problem.l2 (k + 1) y0 y1 y2 y3 y4 y5 y6 y7 y8 y9 y10 y11 y12 y13 y14 y15)) ∧ (∀ y0 y1 y2 y3 y4 y5 y6 y7 y8 y9 y10 y11 y12 y13 y14 y15 y16, LeO (band_Problem.l3 k y0 y1 y2 y3 y4 y5 y6 y7 y8 y9 y10 y11 y12 y13 y14 y15 y16) (band_Problem.l3 (k + 1) y0 y1 y2 y3 y4 y5 y6 y7 y8 y9 y10 y11 y12 y13 y14 y15 y16)) ∧ (∀ y0 y1 y2 y3 y4 y5 y6 y7 y8 y9 y10 y11 y12 y13 y14, LeO (band_Problem.l4 k y0 y1 y2 y3 y4 y5 y6 y7 y8 y9 y10 y11 y12 y13 y14) (band_Problem.l4 (k + 1) y0 y1 y2 y3 y4 y5 y6 y7 y8 y9 y10 y11 y12 y13 y14))
 | 0 => ⟨fun _ _ _ _ _ _ _ _ _ _ _ _ _ _ r h => by simp [band_Problem.j0] at h, fun _ _ _ _ _ _ _ _ _ _ _ _ _ _ _ _ r h => by simp [band_Problem.l0] at h, fun _ _ _ _ _ _ _ _ _ _ _ _ _ _ _ _ _ _ _ _ _ r h => by simp [band_Problem.l1] at h, fun _ _ _ _ _ _ _ _ _ _ _ _ _ _ _ _ r h => by simp [band_Problem.l2] at h, fun _ _ _ _ _ _ _ _ _ _ _ _ _ _ _ _ _ r h => by simp [band_Problem.l3] at h, fun _ _ _ _ _ _ _ _ _ _ _ _ _ _ _ r h => by simp [band_Problem.l4] at h⟩
 | k + 1 => by
  obtain ⟨ih0, ih1, ih2, ih3, ih4, ih5⟩ := band_Problem.mono_l k
  refine ⟨?_, ?_, ?_, ?_, ?_, ?_⟩
  ·
   intro y0 y1 y2 y3 y4 y5 y6 y7 y8 y9 y10 y11 y12 y13
   unfold band_Problem.j0
   repeat' first
   | (with_reducible exact ih0 _ _ _ _ _ _ _ _ _ _ _ _ _ _)
   | (with_reducible exact ih1 _ _ _ _ _ _ _ _ _ _ _ _ _ _ _ _)
   | (with_reducible exact ih2 _ _ _ _ _ _ _ _ _ _ _ _ _ _ _ _ _ _ _ _ _)
   | (with_reducible exact ih3 _ _ _ _ _ _ _ _ _ _ _ _ _ _ _ _)
   | (with_reducible exact ih4 _ _ _ _ _ _ _ _ _ _ _ _ _ _ _ _ _)
   | (with_reducible exact ih5 _ _ _ _ _ _ _ _ _ _ _ _ _ _ _)
   | (with_reducible exact LeO.refl _)
   | (with_reducible exact LeO.none _)
   | (with_reducible refine LeO.ite ?_ ?_)
   | (with_reducible refine LeO.bind ?_ (fun _ => ?_))
   | exact ih0 _ _ _ _ _ _ _ _ _ _ _ _ _ _
   | exact ih1 _ _ _ _ _ _ _ _ _ _ _ _ _ _ _ _
   | exact ih2 _ _ _ _ _ _ _ _ _ _ _ _ _ _ _ _ _ _ _ _ _
   | exact ih3 _ _ _ _ _ _ _ _ _ _ _ _ _ _ _ _
   | exact ih4 _ _ _ _ _ _ _ _ _ _ _ _ _ _ _ _ _
   | exact ih5 _ _ _ _ _ _ _ _ _ _ _ _ _ _ _
   | exact LeO.none _
   | refine LeO.ite ?_ ?_
   | refine LeO.bind ?_ (fun _ => ?_)
  ·
   intro y0 y1 y2 y3 y4 y5 y6 y7 y8 y9 y10 y11 y12 y13 y14 y15
   unfold band_Problem.l0
   repeat' first
   | (with_reducible exact ih0 _ _ _ _ _ _ _ _ _ _ _ _ _ _)
   | (with_reducible exact ih1 _ _ _ _ _ _ _ _ _ _ _ _ _ _ _ _)
   | (with_reducible exact ih2 _ _ _ _ _ _ _ _ _ _ _ _ _ _ _ _ _ _ _ _ _)
   | (with_reducible exact ih3 _ _ _ _ _ _ _ _ _ _ _ _ _ _ _ _)
   | (with_reducible exact ih4 _ _ _ _ _ _ _ _ _ _ _ _ _ _ _ _ _)
   | (with_reducible exact ih5 _ _ _ _ _ _ _ _ _ _ _ _ _ _ _)
   | (with_reducible exact LeO.refl _)
   | (with_reducible exact LeO.none _)
   | (with_reducible refine LeO.ite ?_ ?_)
   | (with_reducible refine LeO.bind ?_ (fun _ => ?_))
   | exact ih0 _ _ _ _ _ _ _ _ _ _ _ _ _ _
   | exact ih1 _ _ _ _ _ _ _ _ _ _ _ _ _ _ _ _
   | exact ih2 _ _ _ _ _ _ _ _ _ _ _ _ _ _ _ _ _ _ _ _ _
   | exact ih3 _ _ _ _ _ _ _ _ _ _ _ _ _ _ _ _
   | exact ih4 _ _ _ _ _ _ _ _ _ _ _ _ _ _ _ _ _
   | exact ih5 _ _ _ _ _ _ _ _ _ _ _ _ _ _ _
   | exact LeO.none _
   | refine LeO.ite ?_ ?_
   | refine LeO.bind ?_ (fun _ => ?_)
  ·
   intro y0 y1 y2 y3 y4 y5 y6 y7 y8 y9 y10 y11 y12 y13 y14 y15 y16 y17 y18 y19 y20
   unfold band_Problem.l1
   repeat' first
   | (with_reducible exact ih0 _ _ _ _ _ _ _ _ _ _ _ _ _ _)
   | (with_reducible exact ih1 _ _ _ _ _ _ _ _ _ _ _ _ _ _ _ _)
   | (with_reducible exact ih2 _ _ _ _ _ _ _ _ _ _ _ _ _ _ _ _ _ _ _ _ _)
   | (with_reducible exact ih3 _ _ _ _ _ _ _ _ _ _ _ _ _ _ _ _)
   | (with_reducible exact ih4 _ _ _ _ _ _ _ _ _ _ _ _ _ _ _ _ _)
   | (with_reducible exact ih5 _ _ _ _ _ _ _ _ _ _ _ _ _ _ _)
   | (with_reducible exact LeO.refl _)
   | (with_reducible exact LeO.none _)
   | (with_reducible refine LeO.ite ?_ ?_)
   | (with_reducible refine LeO.bind ?_ (fun _ => ?_))
   | exact ih0 _ _ _ _ _ _ _ _ _ _ _ _ _ _
   | exact ih1 _ _ _ _ _ _ _ _ _ _ _ _ _ _ _ _
   | exact ih2 _ _ _ _ _ _ _ _ _ _ _ _ _ _ _ _ _ _ _ _ _
   | exact ih3 _ _ _ _ _ _ _ _ _ _ _ _ _ _ _ _
   | exact ih4 _ _ _ _ _ _ _ _ _ _ _ _ _ _ _ _ _
   | exact ih5 _ _ _ _ _ _ _ _ _ _ _ _ _ _ _
   | exact LeO.none _
   | refine LeO.ite ?_ ?_
   | refine LeO.bind ?_ (fun _ => ?_)
  ·
   intro y0 y1 y2 y3 y4 y5 y6 y7 y8 y9 y10 y11 y12 y13 y14 y15
   unfold band_Problem.l2
   repeat' first
   | (with_reducible exact ih0 _ _ _ _ _ _ _ _ _ _ _ _ _ _)
   | (with_reducible exact ih1 _ _ _ _ _ _ _ _ _ _ _ _ _ _ _ _)
   | (with_reducible exact ih2 _ _ _ _ _ _ _ _ _ _ _ _ _ _ _ _ _ _ _ _ _)
   | (with_reducible exact ih3 _ _ _ _ _ _ _ _ _ _ _ _ _ _ _ _)
   | (with_reducible exact ih4 _ _ _ _ _ _ _ _ _ _ _ _ _ _ _ _ _)
   | (with_reducible exact ih5 _ _ _ _ _ _ _ _ _ _ _ _ _ _ _)
   | (with_reducible exact LeO.refl _)
   | (with_reducible exact LeO.none _)
   | (with_reducible refine LeO.ite ?_ ?_)
   | (with_reducible refine LeO.bind ?_ (fun _ => ?_))
   | exact ih0 _ _ _ _ _ _ _ _ _ _ _ _ _ _
   | exact ih1 _ _ _ _ _ _ _ _ _ _ _ _ _ _ _ _
   | exact ih2 _ _ _ _ _ _ _ _ _ _ _ _ _ _ _ _ _ _ _ _ _
   | exact ih3 _ _ _ _ _ _ _ _ _ _ _ _ _ _ _ _
   | exact ih4 _ _ _ _ _ _ _ _ _ _ _ _ _ _ _ _ _
   | exact ih5 _ _ _ _ _ _ _ _ _ _ _ _ _ _ _
   | exact LeO.none _
   | refine LeO.ite ?_ ?_
   | refine LeO.bind ?_ (fun _ => ?_)
  ·
   intro y0 y1 y2 y3 y4 y5 y6 y7 y8 y9 y10 y11 y12 y13 y14 y15 y16
   unfold band_Problem.l3
   repeat' first
   | (with_reducible exact ih0 _ _ _ _ _ _ _ _ _ _ _ _ _ _)
   | (with_reducible exact ih1 _ _ _ _ _ _ _ _ _ _ _ _ _ _ _ _)
   | (with_reducible exact ih2 _ _ _ _ _ _ _ _ _ _ _ _ _ _ _ _ _ _ _ _ _)
   | (with_reducible exact ih3 _ _ _ _ _ _ _ _ _ _ _ _ _ _ _ _)
   | (with_reducible exact ih4 _ _ _ _ _ _ _ _ _ _ _ _ _ _ _ _ _)
   | (with_reducible exact ih5 _ _ _ _ _ _ _ _ _ _ _ _ _ _ _)
   | (with_reducible exact LeO.refl _)
   | (with_reducible exact LeO.none _)
   | (with_reducible refine LeO.ite ?_ ?_)
   | (with_reducible refine LeO.bind ?_ (fun _ => ?_))
   | exact ih0 _ _ _ _ _ _ _ _ _ _ _ _ _ _
   | exact ih1 _ _ _ _ _ _ _ _ _ _ _ _ _ _ _ _
   | exact ih2 _ _ _ _ _ _ _ _ _ _ _ _ _ _ _ _ _ _ _ _ _
   | exact ih3 _ _ _ _ _ _ _ _ _ _ _ _ _ _ _ _
   | exact ih4 _ _ _ _ _ _ _ _ _ _ _ _ _ _ _ _ _
   | exact ih5 _ _ _ _ _ _ _ _ _ _ _ _ _ _ _
   | exact LeO.none _
   | refine LeO.ite ?_ ?_
   | refine LeO.bind ?_ (fun _ => ?_)
  ·
   intro y0 y1 y2 y3 y4 y5 y6 y7 y8 y9 y10 y11 y12 y13 y14
   unfold band_Problem.l4
   repeat' first
   | (with_reducible exact ih0 _ _ _ _ _ _ _ _ _ _ _ _ _ _)
   | (with_reducible exact ih1 _ _ _ _ _ _ _ _ _ _ _ _ _ _ _ _)
   | (with_reducible exact ih2 _ _ _ _ _ _ _ _ _ _ _ _ _ _ _ _ _ _ _ _ _)
   | (with_reducible exact ih3 _ _ _ _ _ _ _ _ _ _ _ _ _ _ _ _)
   | (with_reducible exact ih4 _ _ _ _ _ _ _ _ _ _ _ _ _ _ _ _ _)
   | (with_reducible exact ih5 _ _ _ _ _ _ _ _ _ _ _ _ _ _ _)
   | (with_reducible exact LeO.refl _)
   | (with_reducible exact LeO.none _)
   | (with_reducible refine LeO.ite ?_ ?_)
   | (with_reducible refine LeO.bind ?_ (fun _ => ?_))
   | exact ih0 _ _ _ _ _ _ _ _ _ _ _ _ _ _
   | exact ih1 _ _ _ _ _ _ _ _ _ _ _ _ _ _ _ _
   | exact ih2 _ _ _ _ _ _ _ _ _ _ _ _ _ _ _ _ _ _ _ _ _
   | exact ih3 _ _ _ _ _ _ _ _ _ _ _ _ _ _ _ _
   | exact ih4 _ _ _ _ _ _ _ _ _ _ _ _ _ _ _ _ _
   | exact ih5 _ _ _ _ _ _ _ _ _ _ _ _ _ _ _
   | exact LeO.none _
   | refine LeO.ite ?_ ?_
   | refine LeO.bind ?_ (fun _ => ?_)
theorem band_Problem.mono : ∀ a0 a1 a2 a3 a4 k, LeO (band_Problem.f k a0 a1 a2 a3 a4) (band_Problem.f (k + 1) a0 a1 a2 a3 a4) := by
 intro a0 a1 a2 a3 a4 k
 obtain ⟨ih0, ih1, ih2, ih3, ih4, ih5⟩ := band_Problem.mono_l k
 unfold band_Problem.f
 repeat' first
   | (with_reducible exact ih0 _ _ _ _ _ _ _ _ _ _ _ _ _ _)
   | (with_reducible exact ih1 _ _ _ _ _ _ _ _ _ _ _ _ _ _ _ _)
   | (with_reducible exact ih2 _ _ _ _ _ _ _ _ _ _ _ _ _ _ _ _ _ _ _ _ _)
   | (with_reducible exact ih3 _ _ _ _ _ _ _ _ _ _ _ _ _ _ _ _)
   | (with_reducible exact ih4 _ _ _ _ _ _ _ _ _ _ _ _ _ _ _ _ _)
   | (with_reducible exact ih5 _ _ _ _ _ _ _ _ _ _ _ _ _ _ _)
   | (with_reducible exact LeO.refl _)
   | (with_reducible exact LeO.none _)
   | (with_reducible refine LeO.ite ?_ ?_)
   | (with_reducible refine LeO.bind ?_ (fun _ => ?_))
   | exact ih0 _ _ _ _ _ _ _ _ _ _ _ _ _ _
   | exact ih1 _ _ _ _ _ _ _ _ _ _ _ _ _ _ _ _
   | exact ih2 _ _ _ _ _ _ _ _ _ _ _ _ _ _ _ _ _ _ _ _ _
   | exact ih3 _ _ _ _ _ _ _ _ _ _ _ _ _ _ _ _
   | exact ih4 _ _ _ _ _ _ _ _ _ _ _ _ _ _ _ _ _
   | exact ih5 _ _ _ _ _ _ _ _ _ _ _ _ _ _ _
   | exact LeO.none _
   | refine LeO.ite ?_ ?_
   | refine LeO.bind ?_ (fun _ => ?_)
set_option maxHeartbeats 8000000 in
set_option maxRecDepth 100000 in
theorem band_Problem.calls (k : Nat) (A0 : Option Addr) (c0 : Nat) (l0 : List (S78)) (A1_0 : Option Addr) (c1_0 : Nat) (l1_0 : List (S84)) (A1_1 : Option Addr) (c1_1 : Nat) (l1_1 : List (S97)) (A1_2 : Option Addr) (c1_2 : Nat) (l1_2 : List (S99)) (a2_0 : Int) (r1 : List (S86)) (r2 : List (S84)) (r3 : List (S97)) (r4 : List (S99)) (r5 : Int) (w : World) (hr0 : Kd.C k78 w A0 l0.length l0) (hc0 : l0.length ≤ c0) (hr1_0 : Kd.C k84 w A1_0 l1_0.length l1_0) (hc1_0 : l1_0.length ≤ c1_0) (hr1_1 : Kd.C k97 w A1_1 l1_1.length l1_1) (hc1_1 : l1_1.length ≤ c1_1) (hr1_2 : Kd.C k99 w A1_2 l1_2.length l1_2) (hc1_2 : l1_2.length ≤ c1_2) (h : band_Problem.f k l0 l1_0 l1_1 l1_2 a2_0 = some (r1, r2, r3, r4, r5)) :
  Calls Try.prog 20 #[.slice A0 l0.length c0, .agg #[.slice A1_0 l1_0.length c1_0, .slice A1_1 l1_1.length c1_1, .slice A1_2 l1_2.length c1_2], .agg #[.int .i64 a2_0]] w fun e w' => ∃ v0_ v1_ v2_ v3_ : Value, e = .returned (.tuple #[.agg #[v0_, v1_, v2_, v3_], .int .i64 r5]) ∧ Kd.S k86 86 w' w.heap.size (fun _ => True) v0_ r1 ∧ Kd.R k84 84 w' w.heap.size (fun _ => True) v1_ r2 ∧ Kd.R k97 97 w' w.heap.size (fun _ => True) v2_ r3 ∧ Kd.R k99 99 w' w.heap.size (fun _ => True) v3_ r4 ∧ Below w.heap.size w w' := by
 have hu44 := Try.underlying44
 have hu34 := Try.underlying34
 have hu49 := Try.underlying49
 have hu92 := Try.underlying92
 have hu78 := Try.underlying78
 have hu86 := Try.underlying86
 have hu84 := Try.underlying84
 have hu97 := Try.underlying97
 have hu99 := Try.underlying99
 have HR0 := Aside0.mk hr0
 have HC0 := Aside0.mk hc0
 clear hr0 hc0
 have HR1_0 := Aside0.mk hr1_0
 have HC1_0 := Aside0.mk hc1_0
 clear hr1_0 hc1_0
 have HR1_1 := Aside0.mk hr1_1
 have HC1_1 := Aside0.mk hc1_1
 clear hr1_1 hc1_1
 have HR1_2 := Aside0.mk hr1_2
 have HC1_2 := Aside0.mk hc1_2
 clear hr1_2 hc1_2
 have HB := Aside0.mk (Below.refl w.heap.size w)
 have H : ((band_valid.f l0).bind fun bt104 => (if bt104.2.2.2.2.2.2.2.2 = true then ((problem_ValidRules.f l1_0 l1_1 l1_2).bind fun t114 => (if t114 = true then ((band_Valid.f a2_0).bind fun t115 => (band_Problem.j0 k l0 (!t115) l1_0 l1_1 l1_2 a2_0 bt104.1 bt104.2.1 bt104.2.2.1 bt104.2.2.2.1 bt104.2.2.2.2.1 bt104.2.2.2.2.2.1 bt104.2.2.2.2.2.2.1 bt104.2.2.2.2.2.2.2.1)) else (band_Problem.j0 k l0 true l1_0 l1_1 l1_2 a2_0 bt104.1 bt104.2.1 bt104.2.2.1 bt104.2.2.2.1 bt104.2.2.2.2.1 bt104.2.2.2.2.2.1 bt104.2.2.2.2.2.2.1 bt104.2.2.2.2.2.2.2.1))) else (band_Problem.j0 k l0 true l1_0 l1_1 l1_2 a2_0 bt104.1 bt104.2.1 bt104.2.2.1 bt104.2.2.2.1 bt104.2.2.2.2.1 bt104.2.2.2.2.2.1 bt104.2.2.2.2.2.2.1 bt104.2.2.2.2.2.2.2.1))) = some (r1, r2, r3, r4, r5) := h
 clear h
 replace H := Option.bind_eq_some_iff.mp H
 obtain ⟨⟨t104, t105, t106, t107, t108, t109, t110, t111, t112⟩, A40, H⟩ := H
 replace H : (if t112 = true then ((problem_ValidRules.f l1_0 l1_1 l1_2).bind fun t114 => (if t114 = true then ((band_Valid.f a2_0).bind fun t115 => (band_Problem.j0 k l0 (!t115) l1_0 l1_1 l1_2 a2_0 t104 t105 t106 t107 t108 t109 t110 t111)) else (band_Problem.j0 k l0 true l1_0 l1_1 l1_2 a2_0 t104 t105 t106 t107 t108 t109 t110 t111))) else (band_Problem.j0 k l0 true l1_0 l1_1 l1_2 a2_0 t104 t105 t106 t107 t108 t109 t110 t111)) = some (r1, r2, r3, r4, r5) := H
 have A4 := Aside0.mk A40
 clear A40
 have HC5 := Aside0.mk H
 clear H
 go_enter Try.func20, Try.ntmps20
 go_upto_region 2 with (first | ((with_reducible refine gate_dst (N := 4) rfl ?_); refine box_event ?hg (N := 4) ?hd (cs := #[.slice A1_0 l1_0.length c1_0, .slice A1_1 l1_1.length c1_1, .slice A1_2 l1_2.length c1_2]) (t := 44) ?hr ?_; (case hd => rfl); (case hg => rfl); (case hr => first | (go_simp; done) | (go_simp; rfl)); intro gb101 hg w6 hbox hb; have n0_ := Aside0.mk (below_step (by repeat (first | (with_reducible first | exact HB.out | apply below_alloc | apply pw_below_drewN | apply below_drew1) | exact HB.out)) hb); have n1_ := Aside0.mk (hbox); have n2_ := Aside0.mk ((by rw [hg]; exact (below_size (by repeat (first | (with_reducible first | exact HB.out | apply below_alloc | apply pw_below_drewN | apply below_drew1) | exact HB.out))) : w.heap.size ≤ gb101)); have n3_ := Aside0.mk ((by rw [hg]; exact (below_size (by repeat (first | (with_reducible first | exact HB.out | apply below_alloc | apply pw_below_drewN | apply below_drew1) | exact HB.out))) : w.heap.size ≤ gb101)); clear HB; have HB := n0_; have BK101 := n1_; have GW101 := n2_; have GE101 := n3_; clear n0_ n1_ n2_ n3_; clear hb hbox hg) | ((with_reducible refine gate_dst (N := 5) rfl ?_); refine box_event ?hg (N := 5) ?hd (cs := #[.int .i64 a2_0]) (t := 34) ?hr ?_; (case hd => rfl); (case hg => rfl); (case hr => first | (go_simp; done) | (go_simp; rfl)); intro gb102 hg w7 hbox hb; have n0_ := Aside0.mk (bb BK101.out hb); have n1_ := Aside0.mk (below_step (by repeat (first | (with_reducible first | exact HB.out | apply below_alloc | apply pw_below_drewN | apply below_drew1 | refine below_set ?_ (Aside0.out (by assumption))) | exact HB.out)) hb); have n2_ := Aside0.mk (hbox); have n3_ := Aside0.mk ((by rw [hg]; exact (below_size (by repeat (first | (with_reducible first | exact HB.out | apply below_alloc | apply pw_below_drewN | apply below_drew1 | refine below_set ?_ (Aside0.out (by assumption))) | exact HB.out))) : w.heap.size ≤ gb102)); have n4_ := Aside0.mk ((by rw [hg]; exact (below_size (by repeat (first | (with_reducible first | exact HB.out | apply below_alloc | apply pw_below_drewN | apply below_drew1 | refine below_set ?_ (Aside0.out (by assumption))) | exact HB.out))) : w.heap.size ≤ gb102)); have n5_ := Aside0.mk ((by rw [hg]; exact Nat.ne_of_lt (bl BK101.out) : gb101 ≠ gb102)); have n6_ := Aside0.mk ((by rw [hg]; exact Nat.ne_of_gt (bl BK101.out) : gb102 ≠ gb101)); clear BK101 HB; have BK101 := n0_; have HB := n1_; have BK102 := n2_; have GW102 := n3_; have GE102 := n4_; have NB101_102 := n5_; have NB102_101 := n6_; clear n0_ n1_ n2_ n3_ n4_ n5_ n6_; clear hb hbox hg) | ((with_reducible refine gate_dst (N := 6) rfl ?_); refine box_event ?hg (N := 6) ?hd (cs := #[.slice none 0 0, .slice none 0 0, .slice none 0 0, .slice none 0 0]) (t := 49) ?hr ?_; (case hd => rfl); (case hg => rfl); (case hr => first | (go_simp; done) | (go_simp; rfl)); intro gb103 hg w8 hbox hb; have n0_ := Aside0.mk (bb BK101.out hb); have n1_ := Aside0.mk (bb BK102.out hb); have n2_ := Aside0.mk (below_step (by repeat (first | (with_reducible first | exact HB.out | apply below_alloc | apply pw_below_drewN | apply below_drew1 | refine below_set ?_ (Aside0.out (by assumption))) | exact HB.out)) hb); have n3_ := Aside0.mk (hbox); have n4_ := Aside0.mk ((by rw [hg]; exact (below_size (by repeat (first | (with_reducible first | exact HB.out | apply below_alloc | apply pw_below_drewN | apply below_drew1 | refine below_set ?_ (Aside0.out (by assumption))) | exact HB.out))) : w.heap.size ≤ gb103)); have n5_ := Aside0.mk ((by rw [hg]; exact (below_size (by repeat (first | (with_reducible first | exact HB.out | apply below_alloc | apply pw_below_drewN | apply below_drew1 | refine below_set ?_ (Aside0.out (by assumption))) | exact HB.out))) : w.heap.size ≤ gb103)); have n6_ := Aside0.mk ((by rw [hg]; exact Nat.ne_of_lt (bl BK101.out) : gb101 ≠ gb103)); have n7_ := Aside0.mk ((by rw [hg]; exact Nat.ne_of_gt (bl BK101.out) : gb103 ≠ gb101)); have n8_ := Aside0.mk ((by rw [hg]; exact Nat.ne_of_lt (bl BK102.out) : gb102 ≠ gb103)); have n9_ := Aside0.mk ((by rw [hg]; exact Nat.ne_of_gt (bl BK102.out) : gb103 ≠ gb102)); clear BK101 BK102 HB; have BK101 := n0_; have BK102 := n1_; have HB := n2_; have BK103 := n3_; have GW103 := n4_; have GE103 := n5_; have NB101_103 := n6_; have NB103_101 := n7_; have NB102_103 := n8_; have NB103_102 := n9_; clear n0_ n1_ n2_ n3_ n4_ n5_ n6_ n7_ n8_ n9_; clear hb hbox hg) | ((with_reducible refine gate_callee (f := 41) rfl ?_); refine goesL_ (some 26) rfl rfl Try.func41 (by kernel_rfl) rfl #[.slice A0 l0.length c0] rfl (by (try simp only [List.map_toArray, List.map_cons, List.map_nil]); first | done | rfl | (simp only [List.length_drop, List.length_take]; rfl)) ?_; (with_reducible refine (band_valid.calls _ _ l0 t104 t105 t106 t107 t108 t109 t110 t111 t112 _ ?side1 ?side2 A4.out).mono ?_); (case side1 => repeat (first | exact (Kd.C_below HR0.out HB.out) | (with_reducible refine Kd.C_alloc ?_ _) | (with_reducible refine Kd.C_drewN ?_ _) | (with_reducible refine Kd.C_drew ?_))); (case side2 => exact HC0.out); rintro e w9 ⟨rfl, hb⟩; refine ⟨_, rfl, ?_⟩; have n0_ := Aside0.mk (bb BK101.out hb); have n1_ := Aside0.mk (bb BK102.out hb); have n2_ := Aside0.mk (bb BK103.out hb); have n3_ := Aside0.mk (below_step (by repeat (first | (with_reducible first | exact HB.out | apply below_alloc | apply pw_below_drewN | apply below_drew1 | refine below_set ?_ (Aside0.out (by assumption))) | exact HB.out)) hb); clear BK101 BK102 BK103 HB; have BK101 := n0_; have BK102 := n1_; have BK103 := n2_; have HB := n3_; clear n0_ n1_ n2_ n3_; (try clear hb); (try clear hb2); (try clear hk); (try clear hi)) | ((with_reducible refine gate_dst (N := 8) rfl ?_); refine box_event ?hg (N := 8) ?hd (cs := #[.int .u64 0, .int .u64 0, .int .u64 0, .int .u64 0, .int .u64 0, .int .u64 0, .int .u64 0, .int .u64 0]) (t := 92) ?hr ?_; (case hd => rfl); (case hg => rfl); (case hr => first | (go_simp; done) | (go_simp; rfl)); intro gb113 hg w10 hbox hb; have n0_ := Aside0.mk (bb BK101.out hb); have n1_ := Aside0.mk (bb BK102.out hb); have n2_ := Aside0.mk (bb BK103.out hb); have n3_ := Aside0.mk (below_step (by repeat (first | (with_reducible first | exact HB.out | apply below_alloc | apply pw_below_drewN | apply below_drew1 | refine below_set ?_ (Aside0.out (by assumption))) | exact HB.out)) hb); have n4_ := Aside0.mk (hbox); have n5_ := Aside0.mk ((by rw [hg]; exact (below_size (by repeat (first | (with_reducible first | exact HB.out | apply below_alloc | apply pw_below_drewN | apply below_drew1 | refine below_set ?_ (Aside0.out (by assumption))) | exact HB.out))) : w.heap.size ≤ gb113)); have n6_ := Aside0.mk ((by rw [hg]; exact (below_size (by repeat (first | (with_reducible first | exact HB.out | apply below_alloc | apply pw_below_drewN | apply below_drew1 | refine below_set ?_ (Aside0.out (by assumption))) | exact HB.out))) : w.heap.size ≤ gb113)); have n7_ := Aside0.mk ((by rw [hg]; exact Nat.ne_of_lt (bl BK101.out) : gb101 ≠ gb113)); have n8_ := Aside0.mk ((by rw [hg]; exact Nat.ne_of_gt (bl BK101.out) : gb113 ≠ gb101)); have n9_ := Aside0.mk ((by rw [hg]; exact Nat.ne_of_lt (bl BK102.out) : gb102 ≠ gb113)); have n10_ := Aside0.mk ((by rw [hg]; exact Nat.ne_of_gt (bl BK102.out) : gb113 ≠ gb102)); have n11_ := Aside0.mk ((by rw [hg]; exact Nat.ne_of_lt (bl BK103.out) : gb103 ≠ gb113)); have n12_ := Aside0.mk ((by rw [hg]; exact Nat.ne_of_gt (bl BK103.out) : gb113 ≠ gb103)); clear BK101 BK102 BK103 HB; have BK101 := n0_; have BK102 := n1_; have BK103 := n2_; have HB := n3_; have BK113 := n4_; have GW113 := n5_; have GE113 := n6_; have NB101_113 := n7_; have NB113_101 := n8_; have NB102_113 := n9_; have NB113_102 := n10_; have NB103_113 := n11_; have NB113_103 := n12_; clear n0_ n1_ n2_ n3_ n4_ n5_ n6_ n7_ n8_ n9_ n10_ n11_ n12_; clear hb hbox hg; have hnb11 := NB113_101.out; have hnc11 := NB101_113.out; have hnb12 := NB113_102.out; have hnc12 := NB102_113.out; have hnb13 := NB113_103.out; have hnc13 := NB103_113.out; obtain ⟨hcz14_0, hcz14_1, hcz14_2, hcz14_3, hcz14_4, hcz14_5, hcz14_6, hcz14_7⟩ := bc8 BK113.out; obtain ⟨hfz14_0, hfz14_1, hfz14_2, hfz14_3, hfz14_4, hfz14_5, hfz14_6, hfz14_7⟩ := bz8 BK113.out))
 (try simp only [Act.put, List.setIfInBounds_toArray, List.set_cons_zero, List.set_cons_succ])
 go_cut [40] (fun v40 wc => ∃ (kq : Nat) (x40_4 : Bool), v40 = .bool x40_4 ∧ Aside0 (band_Problem.j0 kq l0 x40_4 l1_0 l1_1 l1_2 a2_0 t104 t105 t106 t107 t108 t109 t110 t111 = some (r1, r2, r3, r4, r5)) ∧ Aside0 (kq ≤ k) ∧ Aside0 (wc.heap[gb101]? = some (.cells #[(.slice A1_0 l1_0.length c1_0), (.slice A1_1 l1_1.length c1_1), (.slice A1_2 l1_2.length c1_2)] 44 (0, 0))) ∧ Aside0 (wc.heap[gb102]? = some (.cells #[.int .i64 a2_0] 34 (0, 0))) ∧ Aside0 (wc.heap[gb103]? = some (.cells #[(.slice none 0 0), (.slice none 0 0), (.slice none 0 0), (.slice none 0 0)] 49 (0, 0))) ∧ Aside0 (wc.heap[gb113]? = some (.cells #[.int .u64 t104, .int .u64 t105, .int .u64 t106, .int .u64 t107, .int .u64 t108, .int .u64 t109, .int .u64 t110, .int .u64 t111] 92 (0, 0))) ∧ Aside0 (Below w.heap.size w wc))
 case first =>
  have H := HC5.out
  clear HC5
  by_cases c15 : t112 = true
  ·
   subst c15
   have H1 : ((problem_ValidRules.f l1_0 l1_1 l1_2).bind fun t114 => (if t114 = true then ((band_Valid.f a2_0).bind fun t115 => (band_Problem.j0 k l0 (!t115) l1_0 l1_1 l1_2 a2_0 t104 t105 t106 t107 t108 t109 t110 t111)) else (band_Problem.j0 k l0 true l1_0 l1_1 l1_2 a2_0 t104 t105 t106 t107 t108 t109 t110 t111))) = some (r1, r2, r3, r4, r5) := by rw [if_pos rfl] at H; exact H
   clear H
   have H := H1
   clear H1
   replace H := Option.bind_eq_some_iff.mp H
   obtain ⟨t114, A160, H⟩ := H
   replace H : (if t114 = true then ((band_Valid.f a2_0).bind fun t115 => (band_Problem.j0 k l0 (!t115) l1_0 l1_1 l1_2 a2_0 t104 t105 t106 t107 t108 t109 t110 t111)) else (band_Problem.j0 k l0 true l1_0 l1_1 l1_2 a2_0 t104 t105 t106 t107 t108 t109 t110 t111)) = some (r1, r2, r3, r4, r5) := H
   have A16 := Aside0.mk A160
   clear A160
   by_cases c17 : t114 = true
   ·
    subst c17
    have H1 : ((band_Valid.f a2_0).bind fun t115 => (band_Problem.j0 k l0 (!t115) l1_0 l1_1 l1_2 a2_0 t104 t105 t106 t107 t108 t109 t110 t111)) = some (r1, r2, r3, r4, r5) := by rw [if_pos rfl] at H; exact H
    clear H
    have H := H1
    clear H1
    replace H := Option.bind_eq_some_iff.mp H
    obtain ⟨t115, A180, H⟩ := H
    replace H : (band_Problem.j0 k l0 (!t115) l1_0 l1_1 l1_2 a2_0 t104 t105 t106 t107 t108 t109 t110 t111) = some (r1, r2, r3, r4, r5) := H
    have A18 := Aside0.mk A180
    clear A180
    have H' := Aside0.mk H
    clear H
    have hnb19 := NB101_102.out
    have hnc19 := NB102_101.out
    have hnb20 := NB101_103.out
    have hnc20 := NB103_101.out
    have hnb21 := NB101_113.out
    have hnc21 := NB113_101.out
    obtain ⟨hcz22_0, hcz22_1, hcz22_2⟩ := bc3 BK101.out
    obtain ⟨hfz22_0, hfz22_1, hfz22_2⟩ := bz3 BK101.out
    go_wp2_with (first | (go_at_call 42; (with_reducible refine (problem_ValidRules.calls _ _ l1_0 _ _ l1_1 _ _ l1_2 true _ ?side1 ?side2 ?side3 ?side4 ?side5 ?side6 A16.out).mono ?_); (case side1 => exact Kd.C_below HR1_0.out (by repeat (first | (with_reducible first | exact HB.out | apply below_alloc | apply pw_below_drewN | apply below_drew1 | refine below_set ?_ (Aside0.out (by assumption))) | exact HB.out))); (case side2 => exact HC1_0.out); (case side3 => exact Kd.C_below HR1_1.out (by repeat (first | (with_reducible first | exact HB.out | apply below_alloc | apply pw_below_drewN | apply below_drew1 | refine below_set ?_ (Aside0.out (by assumption))) | exact HB.out))); (case side4 => exact HC1_1.out); (case side5 => exact Kd.C_below HR1_2.out (by repeat (first | (with_reducible first | exact HB.out | apply below_alloc | apply pw_below_drewN | apply below_drew1 | refine below_set ?_ (Aside0.out (by assumption))) | exact HB.out))); (case side6 => exact HC1_2.out); rintro e w23 ⟨rfl, hb⟩; have n0_ := Aside0.mk (blk_below (g := gb101) (o := .cells #[.slice A1_0 l1_0.length c1_0, .slice A1_1 l1_1.length c1_1, .slice A1_2 l1_2.length c1_2] 44 (0, 0)) (by (repeat refine bk ?_); refine blk_far ?_ NB101_113.out _; (repeat refine bk ?_); refine blk_far ?_ NB101_113.out _; (repeat refine bk ?_); refine blk_far ?_ NB101_113.out _; (repeat refine bk ?_); refine blk_far ?_ NB101_113.out _; (repeat refine bk ?_); refine blk_far ?_ NB101_113.out _; (repeat refine bk ?_); refine blk_far ?_ NB101_113.out _; (repeat refine bk ?_); refine blk_far ?_ NB101_113.out _; (repeat refine bk ?_); refine blk_far ?_ NB101_113.out _; (repeat refine bk ?_); exact BK101.out) hb); have n1_ := Aside0.mk (blk_below (g := gb102) (o := .cells #[.int .i64 a2_0] 34 (0, 0)) (by (repeat refine bk ?_); refine blk_far ?_ NB102_113.out _; (repeat refine bk ?_); refine blk_far ?_ NB102_113.out _; (repeat refine bk ?_); refine blk_far ?_ NB102_113.out _; (repeat refine bk ?_); refine blk_far ?_ NB102_113.out _; (repeat refine bk ?_); refine blk_far ?_ NB102_113.out _; (repeat refine bk ?_); refine blk_far ?_ NB102_113.out _; (repeat refine bk ?_); refine blk_far ?_ NB102_113.out _; (repeat refine bk ?_); refine blk_far ?_ NB102_113.out _; (repeat refine bk ?_); exact BK102.out) hb); have n2_ := Aside0.mk (blk_below (g := gb103) (o := .cells #[.slice none 0 0, .slice none 0 0, .slice none 0 0, .slice none 0 0] 49 (0, 0)) (by (repeat refine bk ?_); refine blk_far ?_ NB103_113.out _; (repeat refine bk ?_); refine blk_far ?_ NB103_113.out _; (repeat refine bk ?_); refine blk_far ?_ NB103_113.out _; (repeat refine bk ?_); refine blk_far ?_ NB103_113.out _; (repeat refine bk ?_); refine blk_far ?_ NB103_113.out _; (repeat refine bk ?_); refine blk_far ?_ NB103_113.out _; (repeat refine bk ?_); refine blk_far ?_ NB103_113.out _; (repeat refine bk ?_); refine blk_far ?_ NB103_113.out _; (repeat refine bk ?_); exact BK103.out) hb); have n3_ := Aside0.mk (blk_below (g := gb113) (o := .cells #[.int .u64 t104, .int .u64 t105, .int .u64 t106, .int .u64 t107, .int .u64 t108, .int .u64 t109, .int .u64 t110, .int .u64 t111] 92 (0, 0)) (by (repeat refine bk ?_); refine blk_put (cs := #[.int .u64 t104, .int .u64 t105, .int .u64 t106, .int .u64 t107, .int .u64 t108, .int .u64 t109, .int .u64 t110, .int .u64 0]) ?_ 7 _ rfl; (repeat refine bk ?_); refine blk_put (cs := #[.int .u64 t104, .int .u64 t105, .int .u64 t106, .int .u64 t107, .int .u64 t108, .int .u64 t109, .int .u64 0, .int .u64 0]) ?_ 6 _ rfl; (repeat refine bk ?_); refine blk_put (cs := #[.int .u64 t104, .int .u64 t105, .int .u64 t106, .int .u64 t107, .int .u64 t108, .int .u64 0, .int .u64 0, .int .u64 0]) ?_ 5 _ rfl; (repeat refine bk ?_); refine blk_put (cs := #[.int .u64 t104, .int .u64 t105, .int .u64 t106, .int .u64 t107, .int .u64 0, .int .u64 0, .int .u64 0, .int .u64 0]) ?_ 4 _ rfl; (repeat refine bk ?_); refine blk_put (cs := #[.int .u64 t104, .int .u64 t105, .int .u64 t106, .int .u64 0, .int .u64 0, .int .u64 0, .int .u64 0, .int .u64 0]) ?_ 3 _ rfl; (repeat refine bk ?_); refine blk_put (cs := #[.int .u64 t104, .int .u64 t105, .int .u64 0, .int .u64 0, .int .u64 0, .int .u64 0, .int .u64 0, .int .u64 0]) ?_ 2 _ rfl; (repeat refine bk ?_); refine blk_put (cs := #[.int .u64 t104, .int .u64 0, .int .u64 0, .int .u64 0, .int .u64 0, .int .u64 0, .int .u64 0, .int .u64 0]) ?_ 1 _ rfl; (repeat refine bk ?_); refine blk_put (cs := #[.int .u64 0, .int .u64 0, .int .u64 0, .int .u64 0, .int .u64 0, .int .u64 0, .int .u64 0, .int .u64 0]) ?_ 0 _ rfl; (repeat refine bk ?_); exact BK113.out) hb); have n4_ := Aside0.mk (below_step (by repeat (first | (with_reducible first | exact HB.out | apply below_alloc | apply pw_below_drewN | apply below_drew1 | refine below_set ?_ (Aside0.out (by assumption))) | exact HB.out)) hb); clear BK101 BK102 BK103 BK113 HB; have BK101 := n0_; have BK102 := n1_; have BK103 := n2_; have BK113 := n3_; have HB := n4_; clear n0_ n1_ n2_ n3_ n4_; (try clear hb); (try clear hb2); (try clear hk); (try clear hi); have hnb24 := NB102_103.out; have hnc24 := NB103_102.out; have hnb25 := NB102_113.out; have hnc25 := NB113_102.out; have hcz26_0 : w23.cell? ⟨gb102, 0, none⟩ = some (.int .i64 a2_0) := (blk_cell BK102.out 0).trans rfl; have hfz26_0 := blk_frozen BK102.out 0) | (go_at_call 28; (with_reducible refine (band_Valid.calls a2_0 t115 _ A18.out).mono ?_); rintro e w27 ⟨rfl, hb⟩; have n0_ := Aside0.mk (bb BK101.out hb); have n1_ := Aside0.mk (bb BK102.out hb); have n2_ := Aside0.mk (bb BK103.out hb); have n3_ := Aside0.mk (bb BK113.out hb); have n4_ := Aside0.mk (below_step (by repeat (first | (with_reducible first | exact HB.out | apply below_alloc | apply pw_below_drewN | apply below_drew1 | refine below_set ?_ (Aside0.out (by assumption))) | exact HB.out)) hb); clear BK101 BK102 BK103 BK113 HB; have BK101 := n0_; have BK102 := n1_; have BK103 := n2_; have BK113 := n3_; have HB := n4_; clear n0_ n1_ n2_ n3_ n4_; (try clear hb); (try clear hb2); (try clear hk); (try clear hi)))
    go_meet
    case rel => exact ⟨_, (!t115), (by first | rfl | (simp; done) | (simp [*]; done)), H', ⟨by first | omega | exact Nat.le_refl _⟩, ⟨by (repeat refine bk ?_); exact BK101.out⟩, ⟨by (repeat refine bk ?_); exact BK102.out⟩, ⟨by (repeat refine bk ?_); exact BK103.out⟩, ⟨by (repeat refine bk ?_); exact BK113.out⟩, ⟨by repeat (first | (with_reducible first | exact HB.out | apply below_alloc | apply pw_below_drewN | apply below_drew1 | refine below_set ?_ (Aside0.out (by assumption))) | exact HB.out)⟩⟩
   ·
    replace c17 := Bool.eq_false_iff.mpr c17
    subst c17
    have H1 : (band_Problem.j0 k l0 true l1_0 l1_1 l1_2 a2_0 t104 t105 t106 t107 t108 t109 t110 t111) = some (r1, r2, r3, r4, r5) := by rw [if_neg (show ¬ (false = true) by decide)] at H; exact H
    clear H
    have H := H1
    clear H1
    have H' := Aside0.mk H
    clear H
    have hnb28 := NB101_102.out
    have hnc28 := NB102_101.out
    have hnb29 := NB101_103.out
    have hnc29 := NB103_101.out
    have hnb30 := NB101_113.out
    have hnc30 := NB113_101.out
    obtain ⟨hcz31_0, hcz31_1, hcz31_2⟩ := bc3 BK101.out
    obtain ⟨hfz31_0, hfz31_1, hfz31_2⟩ := bz3 BK101.out
    go_wp2_with (first | (go_at_call 42; (with_reducible refine (problem_ValidRules.calls _ _ l1_0 _ _ l1_1 _ _ l1_2 false _ ?side1 ?side2 ?side3 ?side4 ?side5 ?side6 A16.out).mono ?_); (case side1 => exact Kd.C_below HR1_0.out (by repeat (first | (with_reducible first | exact HB.out | apply below_alloc | apply pw_below_drewN | apply below_drew1 | refine below_set ?_ (Aside0.out (by assumption))) | exact HB.out))); (case side2 => exact HC1_0.out); (case side3 => exact Kd.C_below HR1_1.out (by repeat (first | (with_reducible first | exact HB.out | apply below_alloc | apply pw_below_drewN | apply below_drew1 | refine below_set ?_ (Aside0.out (by assumption))) | exact HB.out))); (case side4 => exact HC1_1.out); (case side5 => exact Kd.C_below HR1_2.out (by repeat (first | (with_reducible first | exact HB.out | apply below_alloc | apply pw_below_drewN | apply below_drew1 | refine below_set ?_ (Aside0.out (by assumption))) | exact HB.out))); (case side6 => exact HC1_2.out); rintro e w32 ⟨rfl, hb⟩; have n0_ := Aside0.mk (blk_below (g := gb101) (o := .cells #[.slice A1_0 l1_0.length c1_0, .slice A1_1 l1_1.length c1_1, .slice A1_2 l1_2.length c1_2] 44 (0, 0)) (by (repeat refine bk ?_); refine blk_far ?_ NB101_113.out _; (repeat refine bk ?_); refine blk_far ?_ NB101_113.out _; (repeat refine bk ?_); refine blk_far ?_ NB101_113.out _; (repeat refine bk ?_); refine blk_far ?_ NB101_113.out _; (repeat refine bk ?_); refine blk_far ?_ NB101_113.out _; (repeat refine bk ?_); refine blk_far ?_ NB101_113.out _; (repeat refine bk ?_); refine blk_far ?_ NB101_113.out _; (repeat refine bk ?_); refine blk_far ?_ NB101_113.out _; (repeat refine bk ?_); exact BK101.out) hb); have n1_ := Aside0.mk (blk_below (g := gb102) (o := .cells #[.int .i64 a2_0] 34 (0, 0)) (by (repeat refine bk ?_); refine blk_far ?_ NB102_113.out _; (repeat refine bk ?_); refine blk_far ?_ NB102_113.out _; (repeat refine bk ?_); refine blk_far ?_ NB102_113.out _; (repeat refine bk ?_); refine blk_far ?_ NB102_113.out _; (repeat refine bk ?_); refine blk_far ?_ NB102_113.out _; (repeat refine bk ?_); refine blk_far ?_ NB102_113.out _; (repeat refine bk ?_); refine blk_far ?_ NB102_113.out _; (repeat refine bk ?_); refine blk_far ?_ NB102_113.out _; (repeat refine bk ?_); exact BK102.out) hb); have n2_ := Aside0.mk (blk_below (g := gb103) (o := .cells #[.slice none 0 0, .slice none 0 0, .slice none 0 0, .slice none 0 0] 49 (0, 0)) (by (repeat refine bk ?_); refine blk_far ?_ NB103_113.out _; (repeat refine bk ?_); refine blk_far ?_ NB103_113.out _; (repeat refine bk ?_); refine blk_far ?_ NB103_113.out _; (repeat refine bk ?_); refine blk_far ?_ NB103_113.out _; (repeat refine bk ?_); refine blk_far ?_ NB103_113.out _; (repeat refine bk ?_); refine blk_far ?_ NB103_113.out _; (repeat refine bk ?_); refine blk_far ?_ NB103_113.out _; (repeat refine bk ?_); refine blk_far ?_ NB103_113.out _; (repeat refine bk ?_); exact BK103.out) hb); have n3_ := Aside0.mk (blk_below (g := gb113) (o := .cells #[.int .u64 t104, .int .u64 t105, .int .u64 t106, .int .u64 t107, .int .u64 t108, .int .u64 t109, .int .u64 t110, .int .u64 t111] 92 (0, 0)) (by (repeat refine bk ?_); refine blk_put (cs := #[.int .u64 t104, .int .u64 t105, .int .u64 t106, .int .u64 t107, .int .u64 t108, .int .u64 t109, .int .u64 t110, .int .u64 0]) ?_ 7 _ rfl; (repeat refine bk ?_); refine blk_put (cs := #[.int .u64 t104, .int .u64 t105, .int .u64 t106, .int .u64 t107, .int .u64 t108, .int .u64 t109, .int .u64 0, .int .u64 0]) ?_ 6 _ rfl; (repeat refine bk ?_); refine blk_put (cs := #[.int .u64 t104, .int .u64 t105, .int .u64 t106, .int .u64 t107, .int .u64 t108, .int .u64 0, .int .u64 0, .int .u64 0]) ?_ 5 _ rfl; (repeat refine bk ?_); refine blk_put (cs := #[.int .u64 t104, .int .u64 t105, .int .u64 t106, .int .u64 t107, .int .u64 0, .int .u64 0, .int .u64 0, .int .u64 0]) ?_ 4 _ rfl; (repeat refine bk ?_); refine blk_put (cs := #[.int .u64 t104, .int .u64 t105, .int .u64 t106, .int .u64 0, .int .u64 0, .int .u64 0, .int .u64 0, .int .u64 0]) ?_ 3 _ rfl; (repeat refine bk ?_); refine blk_put (cs := #[.int .u64 t104, .int .u64 t105, .int .u64 0, .int .u64 0, .int .u64 0, .int .u64 0, .int .u64 0, .int .u64 0]) ?_ 2 _ rfl; (repeat refine bk ?_); refine blk_put (cs := #[.int .u64 t104, .int .u64 0, .int .u64 0, .int .u64 0, .int .u64 0, .int .u64 0, .int .u64 0, .int .u64 0]) ?_ 1 _ rfl; (repeat refine bk ?_); refine blk_put (cs := #[.int .u64 0, .int .u64 0, .int .u64 0, .int .u64 0, .int .u64 0, .int .u64 0, .int .u64 0, .int .u64 0]) ?_ 0 _ rfl; (repeat refine bk ?_); exact BK113.out) hb); have n4_ := Aside0.mk (below_step (by repeat (first | (with_reducible first | exact HB.out | apply below_alloc | apply pw_below_drewN | apply below_drew1 | refine below_set ?_ (Aside0.out (by assumption))) | exact HB.out)) hb); clear BK101 BK102 BK103 BK113 HB; have BK101 := n0_; have BK102 := n1_; have BK103 := n2_; have BK113 := n3_; have HB := n4_; clear n0_ n1_ n2_ n3_ n4_; (try clear hb); (try clear hb2); (try clear hk); (try clear hi)))
    go_meet
    case rel => exact ⟨_, (true), (by first | rfl | (simp; done) | (simp [*]; done)), H', ⟨by first | omega | exact Nat.le_refl _⟩, ⟨by (repeat refine bk ?_); exact BK101.out⟩, ⟨by (repeat refine bk ?_); exact BK102.out⟩, ⟨by (repeat refine bk ?_); exact BK103.out⟩, ⟨by (repeat refine bk ?_); exact BK113.out⟩, ⟨by repeat (first | (with_reducible first | exact HB.out | apply below_alloc | apply pw_below_drewN | apply below_drew1 | refine below_set ?_ (Aside0.out (by assumption))) | exact HB.out)⟩⟩
  ·
   replace c15 := Bool.eq_false_iff.mpr c15
   subst c15
   have H1 : (band_Problem.j0 k l0 true l1_0 l1_1 l1_2 a2_0 t104 t105 t106 t107 t108 t109 t110 t111) = some (r1, r2, r3, r4, r5) := by rw [if_neg (show ¬ (false = true) by decide)] at H; exact H
   clear H
   have H := H1
   clear H1
   have H' := Aside0.mk H
   clear H
   go_wp2
   go_meet
   case rel => exact ⟨_, (true), (by first | rfl | (simp; done) | (simp [*]; done)), H', ⟨by first | omega | exact Nat.le_refl _⟩, ⟨by (repeat refine bk ?_); refine blk_far ?_ NB101_113.out _; (repeat refine bk ?_); refine blk_far ?_ NB101_113.out _; (repeat refine bk ?_); refine blk_far ?_ NB101_113.out _; (repeat refine bk ?_); refine blk_far ?_ NB101_113.out _; (repeat refine bk ?_); refine blk_far ?_ NB101_113.out _; (repeat refine bk ?_); refine blk_far ?_ NB101_113.out _; (repeat refine bk ?_); refine blk_far ?_ NB101_113.out _; (repeat refine bk ?_); refine blk_far ?_ NB101_113.out _; (repeat refine bk ?_); exact BK101.out⟩, ⟨by (repeat refine bk ?_); refine blk_far ?_ NB102_113.out _; (repeat refine bk ?_); refine blk_far ?_ NB102_113.out _; (repeat refine bk ?_); refine blk_far ?_ NB102_113.out _; (repeat refine bk ?_); refine blk_far ?_ NB102_113.out _; (repeat refine bk ?_); refine blk_far ?_ NB102_113.out _; (repeat refine bk ?_); refine blk_far ?_ NB102_113.out _; (repeat refine bk ?_); refine blk_far ?_ NB102_113.out _; (repeat refine bk ?_); refine blk_far ?_ NB102_113.out _; (repeat refine bk ?_); exact BK102.out⟩, ⟨by (repeat refine bk ?_); refine blk_far ?_ NB103_113.out _; (repeat refine bk ?_); refine blk_far ?_ NB103_113.out _; (repeat refine bk ?_); refine blk_far ?_ NB103_113.out _; (repeat refine bk ?_); refine blk_far ?_ NB103_113.out _; (repeat refine bk ?_); refine blk_far ?_ NB103_113.out _; (repeat refine bk ?_); refine blk_far ?_ NB103_113.out _; (repeat refine bk ?_); refine blk_far ?_ NB103_113.out _; (repeat refine bk ?_); refine blk_far ?_ NB103_113.out _; (repeat refine bk ?_); exact BK103.out⟩, ⟨by (repeat refine bk ?_); refine blk_put (cs := #[.int .u64 t104, .int .u64 t105, .int .u64 t106, .int .u64 t107, .int .u64 t108, .int .u64 t109, .int .u64 t110, .int .u64 0]) ?_ 7 _ rfl; (repeat refine bk ?_); refine blk_put (cs := #[.int .u64 t104, .int .u64 t105, .int .u64 t106, .int .u64 t107, .int .u64 t108, .int .u64 t109, .int .u64 0, .int .u64 0]) ?_ 6 _ rfl; (repeat refine bk ?_); refine blk_put (cs := #[.int .u64 t104, .int .u64 t105, .int .u64 t106, .int .u64 t107, .int .u64 t108, .int .u64 0, .int .u64 0, .int .u64 0]) ?_ 5 _ rfl; (repeat refine bk ?_); refine blk_put (cs := #[.int .u64 t104, .int .u64 t105, .int .u64 t106, .int .u64 t107, .int .u64 0, .int .u64 0, .int .u64 0, .int .u64 0]) ?_ 4 _ rfl; (repeat refine bk ?_); refine blk_put (cs := #[.int .u64 t104, .int .u64 t105, .int .u64 t106, .int .u64 0, .int .u64 0, .int .u64 0, .int .u64 0, .int .u64 0]) ?_ 3 _ rfl; (repeat refine bk ?_); refine blk_put (cs := #[.int .u64 t104, .int .u64 t105, .int .u64 0, .int .u64 0, .int .u64 0, .int .u64 0, .int .u64 0, .int .u64 0]) ?_ 2 _ rfl; (repeat refine bk ?_); refine blk_put (cs := #[.int .u64 t104, .int .u64 0, .int .u64 0, .int .u64 0, .int .u64 0, .int .u64 0, .int .u64 0, .int .u64 0]) ?_ 1 _ rfl; (repeat refine bk ?_); refine blk_put (cs := #[.int .u64 0, .int .u64 0, .int .u64 0, .int .u64 0, .int .u64 0, .int .u64 0, .int .u64 0, .int .u64 0]) ?_ 0 _ rfl; (repeat refine bk ?_); exact BK113.out⟩, ⟨by repeat (first | (with_reducible first | exact HB.out | apply below_alloc | apply pw_below_drewN | apply below_drew1 | refine below_set ?_ (Aside0.out (by assumption))) | exact HB.out)⟩⟩
 case rest =>
  clear HC5
  try clear c1
  try clear c2
  try clear p2
  try clear c3
  try clear c4
  try clear c11
  try clear c12
  try clear c13
  try clear c15
  try clear c17
  try clear c19
  try clear c20
  try clear c21
  try clear c24
  try clear c25
  try clear c28
  try clear c29
  try clear c30
  try clear hcz14_0
  try clear hcz14_1
  try clear hcz14_2
  try clear hcz14_3
  try clear hcz14_4
  try clear hcz14_5
  try clear hcz14_6
  try clear hcz14_7
  try clear hcz22_0
  try clear hcz22_1
  try clear hcz22_2
  try clear hcz26_0
  try clear hcz31_0
  try clear hcz31_1
  try clear hcz31_2
  try clear hfz14_0
  try clear hfz14_1
  try clear hfz14_2
  try clear hfz14_3
  try clear hfz14_4
  try clear hfz14_5
  try clear hfz14_6
  try clear hfz14_7
  try clear hfz22_0
  try clear hfz22_1
  try clear hfz22_2
  try clear hfz26_0
  try clear hfz31_0
  try clear hfz31_1
  try clear hfz31_2
  obtain ⟨kq, x40_4, rfl, HA, HJ4, BK101, BK102, BK103, BK113, HB⟩ := hcut
  cases kq with
  | zero => exact absurd HA.out (by simp [band_Problem.j0])
  | succ kj4 =>
   have H := HA.out
   clear HA
   simp only [band_Problem.j0] at H
   by_cases c33 : x40_4 = true
   ·
    subst c33
    have H1 : (some (([] : List (S86)), ([] : List (S84)), ([] : List (S97)), ([] : List (S99)), 2)) = some (r1, r2, r3, r4, r5) := by rw [if_pos rfl] at H; exact H
    clear H
    have H := H1
    clear H1
    simp only [Option.some.injEq, Prod.mk.injEq] at H
    obtain ⟨rfl, rfl, rfl, rfl, rfl⟩ := H
    have hnb34 := NB103_101.out
    have hnc34 := NB101_103.out
    have hnb35 := NB103_102.out
    have hnc35 := NB102_103.out
    have hnb36 := NB103_113.out
    have hnc36 := NB113_103.out
    obtain ⟨hcz37_0, hcz37_1, hcz37_2, hcz37_3⟩ := bc4 BK103.out
    obtain ⟨hfz37_0, hfz37_1, hfz37_2, hfz37_3⟩ := bz4 BK103.out
    go_wp2
    refine bodyPost_ret (results_ct rfl _ _ gb103 49 #[.slice none 0 0, .slice none 0 0, .slice none 0 0, .slice none 0 0] (0, 0) _ rfl (by (repeat refine bk ?_); refine blk_put (cs := #[.slice none 0 0, .slice none 0 0, .slice none 0 0, .slice none 0 0]) ?_ 3 _ rfl; (repeat refine bk ?_); refine blk_put (cs := #[.slice none 0 0, .slice none 0 0, .slice none 0 0, .slice none 0 0]) ?_ 2 _ rfl; (repeat refine bk ?_); refine blk_put (cs := #[.slice none 0 0, .slice none 0 0, .slice none 0 0, .slice none 0 0]) ?_ 1 _ rfl; (repeat refine bk ?_); refine blk_put (cs := #[.slice none 0 0, .slice none 0 0, .slice none 0 0, .slice none 0 0]) ?_ 0 _ rfl; (repeat refine bk ?_); exact BK103.out) Try.underlying49 rfl (by kernel_rfl)) rfl ?_
    exact ⟨_, _, _, _, by first | rfl | (simp [errW_none, errW_some] <;> rfl) | (simp [*, errW_none, errW_some] <;> rfl), by first | exact Kd.S_nil _ _ _ _ _ | exact Kd.N_nil _ _ _ _ _ | exact Kd.V_nil _ _ _ _ _ | exact Kd.Q_nil _ _ _ _ _ | exact Kd.R_nil _ _ _ _ _, by first | exact Kd.R_nil _ _ _ _ _ | exact Kd.N_nil _ _ _ _ _ | exact Kd.V_nil _ _ _ _ _ | exact Kd.Q_nil _ _ _ _ _ | exact Kd.S_nil _ _ _ _ _, by first | exact Kd.R_nil _ _ _ _ _ | exact Kd.N_nil _ _ _ _ _ | exact Kd.V_nil _ _ _ _ _ | exact Kd.Q_nil _ _ _ _ _ | exact Kd.S_nil _ _ _ _ _, by first | exact Kd.R_nil _ _ _ _ _ | exact Kd.N_nil _ _ _ _ _ | exact Kd.V_nil _ _ _ _ _ | exact Kd.Q_nil _ _ _ _ _ | exact Kd.S_nil _ _ _ _ _, by repeat (first | (with_reducible first | exact HB.out | apply below_alloc | apply pw_below_drewN | apply below_drew1 | refine below_set ?_ (Aside0.out (by assumption))) | exact HB.out)⟩
   ·
    replace c33 := Bool.eq_false_iff.mpr c33
    subst c33
    have H1 : (band_Problem.l0 kj4 l0 (l0.length : Int) 0 l1_0 l1_1 l1_2 a2_0 t104 t105 t106 t107 t108 t109 t110 t111 ([] : List (S86))) = some (r1, r2, r3, r4, r5) := by rw [if_neg (show ¬ (false = true) by decide)] at H; exact H
    clear H
    have H := H1
    clear H1
    have H' := Aside0.mk H
    clear H
    go_wp2_with (first | ((with_reducible refine gate_dst (N := 10) rfl ?_); refine box_event ?hg (N := 10) ?hd (cs := #[.slice none 0 0, .slice none 0 0, .slice none 0 0, .slice none 0 0]) (t := 49) ?hr ?_; (case hd => rfl); (case hg => rfl); (case hr => first | (go_simp; done) | (go_simp; rfl)); intro gb116 hg w38 hbox hb; have n0_ := Aside0.mk (bb BK101.out hb); have n1_ := Aside0.mk (bb BK102.out hb); have n2_ := Aside0.mk (bb BK103.out hb); have n3_ := Aside0.mk (bb BK113.out hb); have n4_ := Aside0.mk (below_step (by repeat (first | (with_reducible first | exact HB.out | apply below_alloc | apply pw_below_drewN | apply below_drew1 | refine below_set ?_ (Aside0.out (by assumption))) | exact HB.out)) hb); have n5_ := Aside0.mk (hbox); have n6_ := Aside0.mk ((by rw [hg]; exact (below_size (by repeat (first | (with_reducible first | exact HB.out | apply below_alloc | apply pw_below_drewN | apply below_drew1 | refine below_set ?_ (Aside0.out (by assumption))) | exact HB.out))) : w.heap.size ≤ gb116)); have n7_ := Aside0.mk ((by rw [hg]; exact (below_size (by repeat (first | (with_reducible first | exact HB.out | apply below_alloc | apply pw_below_drewN | apply below_drew1 | refine below_set ?_ (Aside0.out (by assumption))) | exact HB.out))) : w.heap.size ≤ gb116)); have n8_ := Aside0.mk ((by rw [hg]; exact Nat.ne_of_lt (bl BK101.out) : gb101 ≠ gb116)); have n9_ := Aside0.mk ((by rw [hg]; exact Nat.ne_of_gt (bl BK101.out) : gb116 ≠ gb101)); have n10_ := Aside0.mk ((by rw [hg]; exact Nat.ne_of_lt (bl BK102.out) : gb102 ≠ gb116)); have n11_ := Aside0.mk ((by rw [hg]; exact Nat.ne_of_gt (bl BK102.out) : gb116 ≠ gb102)); have n12_ := Aside0.mk ((by rw [hg]; exact Nat.ne_of_lt (bl BK103.out) : gb103 ≠ gb116)); have n13_ := Aside0.mk ((by rw [hg]; exact Nat.ne_of_gt (bl BK103.out) : gb116 ≠ gb103)); have n14_ := Aside0.mk ((by rw [hg]; exact Nat.ne_of_lt (bl BK113.out) : gb113 ≠ gb116)); have n15_ := Aside0.mk ((by rw [hg]; exact Nat.ne_of_gt (bl BK113.out) : gb116 ≠ gb113)); clear BK101 BK102 BK103 BK113 HB; have BK101 := n0_; have BK102 := n1_; have BK103 := n2_; have BK113 := n3_; have HB := n4_; have BK116 := n5_; have GW116 := n6_; have GE116 := n7_; have NB101_116 := n8_; have NB116_101 := n9_; have NB102_116 := n10_; have NB116_102 := n11_; have NB103_116 := n12_; have NB116_103 := n13_; have NB113_116 := n14_; have NB116_113 := n15_; clear n0_ n1_ n2_ n3_ n4_ n5_ n6_ n7_ n8_ n9_ n10_ n11_ n12_ n13_ n14_ n15_; clear hb hbox hg))
    go_loopg [44] kj4 (fun kq v44 w' => ∃ (x44_2 : Int) (x117000_2 : List (S86)) (u117000 : Value), v44 = .int .i64 x44_2 ∧ Aside0 (band_Problem.l0 kq l0 (l0.length : Int) x44_2 l1_0 l1_1 l1_2 a2_0 t104 t105 t106 t107 t108 t109 t110 t111 x117000_2 = some (r1, r2, r3, r4, r5)) ∧ Aside0 (kq ≤ kj4) ∧ Aside0 (Kd.S k86 86 w' w.heap.size (fun _ => True) u117000 x117000_2) ∧ Aside0 (w'.heap[gb101]? = some (.cells #[(.slice A1_0 l1_0.length c1_0), (.slice A1_1 l1_1.length c1_1), (.slice A1_2 l1_2.length c1_2)] 44 (0, 0))) ∧ Aside0 (w'.heap[gb102]? = some (.cells #[.int .i64 a2_0] 34 (0, 0))) ∧ Aside0 (w'.heap[gb103]? = some (.cells #[(.slice none 0 0), (.slice none 0 0), (.slice none 0 0), (.slice none 0 0)] 49 (0, 0))) ∧ Aside0 (w'.heap[gb113]? = some (.cells #[.int .u64 t104, .int .u64 t105, .int .u64 t106, .int .u64 t107, .int .u64 t108, .int .u64 t109, .int .u64 t110, .int .u64 t111] 92 (0, 0))) ∧ Aside0 (w'.heap[gb116]? = some (.cells #[u117000, (.slice none 0 0), (.slice none 0 0), (.slice none 0 0)] 49 (0, 0))) ∧ Aside0 (Below w.heap.size w w'))
    case atStart => exact ⟨(0), (([] : List (S86))), (.slice none 0 0), (by first | rfl | (simp; done) | (simp [*]; done)), H', ⟨Nat.le_refl _⟩, ⟨by first | exact Kd.S_nil _ _ _ _ _ | exact Kd.N_nil _ _ _ _ _ | exact Kd.V_nil _ _ _ _ _ | exact Kd.Q_nil _ _ _ _ _ | exact Kd.R_nil _ _ _ _ _⟩, ⟨by (repeat refine bk ?_); exact BK101.out⟩, ⟨by (repeat refine bk ?_); exact BK102.out⟩, ⟨by (repeat refine bk ?_); exact BK103.out⟩, ⟨by (repeat refine bk ?_); exact BK113.out⟩, ⟨by (repeat refine bk ?_); exact BK116.out⟩, ⟨by repeat (first | (with_reducible first | exact HB.out | apply below_alloc | apply pw_below_drewN | apply below_drew1 | refine below_set ?_ (Aside0.out (by assumption))) | exact HB.out)⟩⟩
    case round =>
     clear H'
     try clear c1
     try clear c2
     try clear p2
     try clear c3
     try clear c4
     try clear c11
     try clear c12
     try clear c13
     try clear c15
     try clear c17
     try clear c19
     try clear c20
     try clear c21
     try clear c24
     try clear c25
     try clear c28
     try clear c29
     try clear c30
     try clear c33
     try clear c34
     try clear c35
     try clear c36
     try clear hcz14_0
     try clear hcz14_1
     try clear hcz14_2
     try clear hcz14_3
     try clear hcz14_4
     try clear hcz14_5
     try clear hcz14_6
     try clear hcz14_7
     try clear hcz22_0
     try clear hcz22_1
     try clear hcz22_2
     try clear hcz26_0
     try clear hcz31_0
     try clear hcz31_1
     try clear hcz31_2
     try clear hcz37_0
     try clear hcz37_1
     try clear hcz37_2
     try clear hcz37_3
     try clear hfz14_0
     try clear hfz14_1
     try clear hfz14_2
     try clear hfz14_3
     try clear hfz14_4
     try clear hfz14_5
     try clear hfz14_6
     try clear hfz14_7
     try clear hfz22_0
     try clear hfz22_1
     try clear hfz22_2
     try clear hfz26_0
     try clear hfz31_0
     try clear hfz31_1
     try clear hfz31_2
     try clear hfz37_0
     try clear hfz37_1
     try clear hfz37_2
     try clear hfz37_3
     try clear p2
     obtain ⟨x44_2, x117000_2, u117000, rfl, HA, HK2, HO_117000, BK101, BK102, BK103, BK113, BK116, HB⟩ := hrel
     cases gk with
     | zero => exact absurd HA.out (by simp [band_Problem.l0])
     | succ k2 =>
      have H := HA.out
      clear HA
      simp only [band_Problem.l0] at H
      by_cases c39 : x44_2 < (l0.length : Int)
      ·
       rw [if_pos c39] at H
       have c39b0 : decide (x44_2 < (l0.length : Int)) = true := decide_eq_true c39
       clear c39
       by_cases c40 : 0 ≤ x44_2
       ·
        rw [if_pos c40] at H
        have c40b0 : decide (0 ≤ x44_2) = true := decide_eq_true c40
        clear c40
        by_cases c41 : x44_2 < (l0.length : Int)
        ·
         rw [if_pos c41] at H
         have c41b0 : decide (x44_2 < (l0.length : Int)) = true := decide_eq_true c41
         clear c41
         have H' := Aside0.mk H
         clear H
         have p117 : 0 ≤ (x44_2 : Int) := of_decide_eq_true (by first | (with_reducible assumption) | assumption)
         have q117 : x44_2 < (l0.length : Int) := of_decide_eq_true (by first | (with_reducible assumption) | assumption)
         obtain ⟨ad117, A117_1, c117_1, e117, hx117_0, hx117_1, hl117_1, hi117_1⟩ := at_T78 HR0.out x44_2 p117 q117
         cases e117
         replace hx117_0 := (HB.out.cell (World.block_lt_of_cell? w _ hx117_0)).trans hx117_0
         replace hx117_1 := (HB.out.cell (World.block_lt_of_cell? w _ hx117_1)).trans hx117_1
         have HR117_1 := Aside0.mk hi117_1
         have HC117_1 := Aside0.mk hl117_1
         clear hi117_1 hl117_1
         replace p117 := eq_true p117
         replace q117 := eq_true q117
         go_wp2_with (first | ((with_reducible refine gate_dst (N := 12) rfl ?_); refine box_event ?hg (N := 12) ?hd (cs := #[.int .i64 0, .slice none 0 0]) (t := 78) ?hr ?_; (case hd => rfl); (case hg => rfl); (case hr => first | (go_simp; done) | (go_simp; rfl)); intro gb118 hg w42 hbox hb; have n0_ := Aside0.mk (Kd.S_below (by (with_reducible repeat (first | apply Kd.S_alloc | apply Kd.S_drewN | apply Kd.S_drew)); exact HO_117000.out) hb); have n1_ := Aside0.mk (bb BK101.out hb); have n2_ := Aside0.mk (bb BK102.out hb); have n3_ := Aside0.mk (bb BK103.out hb); have n4_ := Aside0.mk (bb BK113.out hb); have n5_ := Aside0.mk (bb BK116.out hb); have n6_ := Aside0.mk (below_step (by repeat (first | (with_reducible first | exact HB.out | apply below_alloc | apply pw_below_drewN | apply below_drew1 | refine below_set ?_ (Aside0.out (by assumption))) | exact HB.out)) hb); have n7_ := Aside0.mk (hbox); have n8_ := Aside0.mk ((by rw [hg]; exact (below_size (by repeat (first | (with_reducible first | exact HB.out | apply below_alloc | apply pw_below_drewN | apply below_drew1 | refine below_set ?_ (Aside0.out (by assumption))) | exact HB.out))) : w.heap.size ≤ gb118)); have n9_ := Aside0.mk ((by rw [hg]; exact (below_size (by repeat (first | (with_reducible first | exact HB.out | apply below_alloc | apply pw_below_drewN | apply below_drew1 | refine below_set ?_ (Aside0.out (by assumption))) | exact HB.out))) : w.heap.size ≤ gb118)); have n10_ := Aside0.mk ((by rw [hg]; exact Nat.ne_of_lt (bl BK101.out) : gb101 ≠ gb118)); have n11_ := Aside0.mk ((by rw [hg]; exact Nat.ne_of_gt (bl BK101.out) : gb118 ≠ gb101)); have n12_ := Aside0.mk ((by rw [hg]; exact Nat.ne_of_lt (bl BK102.out) : gb102 ≠ gb118)); have n13_ := Aside0.mk ((by rw [hg]; exact Nat.ne_of_gt (bl BK102.out) : gb118 ≠ gb102)); have n14_ := Aside0.mk ((by rw [hg]; exact Nat.ne_of_lt (bl BK103.out) : gb103 ≠ gb118)); have n15_ := Aside0.mk ((by rw [hg]; exact Nat.ne_of_gt (bl BK103.out) : gb118 ≠ gb103)); have n16_ := Aside0.mk ((by rw [hg]; exact Nat.ne_of_lt (bl BK113.out) : gb113 ≠ gb118)); have n17_ := Aside0.mk ((by rw [hg]; exact Nat.ne_of_gt (bl BK113.out) : gb118 ≠ gb113)); have n18_ := Aside0.mk ((by rw [hg]; exact Nat.ne_of_lt (bl BK116.out) : gb116 ≠ gb118)); have n19_ := Aside0.mk ((by rw [hg]; exact Nat.ne_of_gt (bl BK116.out) : gb118 ≠ gb116)); clear HO_117000 BK101 BK102 BK103 BK113 BK116 HB; have HO_117000 := n0_; have BK101 := n1_; have BK102 := n2_; have BK103 := n3_; have BK113 := n4_; have BK116 := n5_; have HB := n6_; have BK118 := n7_; have GW118 := n8_; have GE118 := n9_; have NB101_118 := n10_; have NB118_101 := n11_; have NB102_118 := n12_; have NB118_102 := n13_; have NB103_118 := n14_; have NB118_103 := n15_; have NB113_118 := n16_; have NB118_113 := n17_; have NB116_118 := n18_; have NB118_116 := n19_; clear n0_ n1_ n2_ n3_ n4_ n5_ n6_ n7_ n8_ n9_ n10_ n11_ n12_ n13_ n14_ n15_ n16_ n17_ n18_ n19_; clear hb hbox hg; have hnb43 := NB118_101.out; have hnc43 := NB101_118.out; have hnb44 := NB118_102.out; have hnc44 := NB102_118.out; have hnb45 := NB118_103.out; have hnc45 := NB103_118.out; have hnb46 := NB118_113.out; have hnc46 := NB113_118.out; have hnb47 := NB118_116.out; have hnc47 := NB116_118.out; have hcz48_0 : w42.cell? ⟨gb118, 0, none⟩ = some (.int .i64 0) := (blk_cell BK118.out 0).trans rfl; have hcz48_1 : w42.cell? ⟨gb118, 1, none⟩ = some (.slice none 0 0) := (blk_cell BK118.out 1).trans rfl; have hfz48_0 := blk_frozen BK118.out 0; have hfz48_1 := blk_frozen BK118.out 1) | ((with_reducible refine gate_dst (N := 13) rfl ?_); refine box_event ?hg (N := 13) ?hd (cs := #[.int .i64 0, .slice none 0 0]) (t := 86) ?hr ?_; (case hd => rfl); (case hg => rfl); (case hr => first | (go_simp; done) | (go_simp; rfl)); intro gb119 hg w49 hbox hb; have n0_ := Aside0.mk (Kd.S_below (Kd.S_elderB (by (with_reducible repeat (first | apply Kd.S_alloc | apply Kd.S_drewN | apply Kd.S_drew)); exact (Kd.S_mono (Kd.S_far (p := ⟨gb118, 1, none⟩) (Kd.S_far (p := ⟨gb118, 0, none⟩) (Kd.S_types HO_117000.out BK118.out (by decide)) (fun _ hk => hk.2) (.int .i64 ((rd_T78 l0 x44_2).f0))) (fun _ hk => hk.2) (.slice A117_1 ((rd_T78 l0 x44_2).f1).length c117_1)) (fun _ h_ => h_.1))) gb119 (Nat.le_of_eq hg.symm)) hb); have n1_ := Aside0.mk (blk_below (g := gb101) (o := .cells #[.slice A1_0 l1_0.length c1_0, .slice A1_1 l1_1.length c1_1, .slice A1_2 l1_2.length c1_2] 44 (0, 0)) (by (repeat refine bk ?_); refine blk_far ?_ NB101_118.out _; (repeat refine bk ?_); refine blk_far ?_ NB101_118.out _; (repeat refine bk ?_); exact BK101.out) hb); have n2_ := Aside0.mk (blk_below (g := gb102) (o := .cells #[.int .i64 a2_0] 34 (0, 0)) (by (repeat refine bk ?_); refine blk_far ?_ NB102_118.out _; (repeat refine bk ?_); refine blk_far ?_ NB102_118.out _; (repeat refine bk ?_); exact BK102.out) hb); have n3_ := Aside0.mk (blk_below (g := gb103) (o := .cells #[.slice none 0 0, .slice none 0 0, .slice none 0 0, .slice none 0 0] 49 (0, 0)) (by (repeat refine bk ?_); refine blk_far ?_ NB103_118.out _; (repeat refine bk ?_); refine blk_far ?_ NB103_118.out _; (repeat refine bk ?_); exact BK103.out) hb); have n4_ := Aside0.mk (blk_below (g := gb113) (o := .cells #[.int .u64 t104, .int .u64 t105, .int .u64 t106, .int .u64 t107, .int .u64 t108, .int .u64 t109, .int .u64 t110, .int .u64 t111] 92 (0, 0)) (by (repeat refine bk ?_); refine blk_far ?_ NB113_118.out _; (repeat refine bk ?_); refine blk_far ?_ NB113_118.out _; (repeat refine bk ?_); exact BK113.out) hb); have n5_ := Aside0.mk (blk_below (g := gb116) (o := .cells #[u117000, .slice none 0 0, .slice none 0 0, .slice none 0 0] 49 (0, 0)) (by (repeat refine bk ?_); refine blk_far ?_ NB116_118.out _; (repeat refine bk ?_); refine blk_far ?_ NB116_118.out _; (repeat refine bk ?_); exact BK116.out) hb); have n6_ := Aside0.mk (blk_below (g := gb118) (o := .cells #[.int .i64 ((rd_T78 l0 x44_2).f0), .slice A117_1 ((rd_T78 l0 x44_2).f1).length c117_1] 78 (0, 0)) (by (repeat refine bk ?_); refine blk_put (cs := #[.int .i64 ((rd_T78 l0 x44_2).f0), .slice none 0 0]) ?_ 1 _ rfl; (repeat refine bk ?_); refine blk_put (cs := #[.int .i64 0, .slice none 0 0]) ?_ 0 _ rfl; (repeat refine bk ?_); exact BK118.out) hb); have n7_ := Aside0.mk (below_step (by repeat (first | (with_reducible first | exact HB.out | apply below_alloc | apply pw_below_drewN | apply below_drew1 | refine below_set ?_ (Aside0.out (by assumption))) | exact HB.out)) hb); have n8_ := Aside0.mk (hbox); have n9_ := Aside0.mk ((by rw [hg]; exact (below_size (by repeat (first | (with_reducible first | exact HB.out | apply below_alloc | apply pw_below_drewN | apply below_drew1 | refine below_set ?_ (Aside0.out (by assumption))) | exact HB.out))) : w.heap.size ≤ gb119)); have n10_ := Aside0.mk ((by rw [hg]; exact (below_size (by repeat (first | (with_reducible first | exact HB.out | apply below_alloc | apply pw_below_drewN | apply below_drew1 | refine below_set ?_ (Aside0.out (by assumption))) | exact HB.out))) : w.heap.size ≤ gb119)); have n11_ := Aside0.mk ((by rw [hg]; exact Nat.ne_of_lt (blk_lt (g := gb101) (o := .cells #[.slice A1_0 l1_0.length c1_0, .slice A1_1 l1_1.length c1_1, .slice A1_2 l1_2.length c1_2] 44 (0, 0)) (by (repeat refine bk ?_); refine blk_far ?_ NB101_118.out _; (repeat refine bk ?_); refine blk_far ?_ NB101_118.out _; (repeat refine bk ?_); exact BK101.out)) : gb101 ≠ gb119)); have n12_ := Aside0.mk ((by rw [hg]; exact Nat.ne_of_gt (blk_lt (g := gb101) (o := .cells #[.slice A1_0 l1_0.length c1_0, .slice A1_1 l1_1.length c1_1, .slice A1_2 l1_2.length c1_2] 44 (0, 0)) (by (repeat refine bk ?_); refine blk_far ?_ NB101_118.out _; (repeat refine bk ?_); refine blk_far ?_ NB101_118.out _; (repeat refine bk ?_); exact BK101.out)) : gb119 ≠ gb101)); have n13_ := Aside0.mk ((by rw [hg]; exact Nat.ne_of_lt (blk_lt (g := gb102) (o := .cells #[.int .i64 a2_0] 34 (0, 0)) (by (repeat refine bk ?_); refine blk_far ?_ NB102_118.out _; (repeat refine bk ?_); refine blk_far ?_ NB102_118.out _; (repeat refine bk ?_); exact BK102.out)) : gb102 ≠ gb119)); have n14_ := Aside0.mk ((by rw [hg]; exact Nat.ne_of_gt (blk_lt (g := gb102) (o := .cells #[.int .i64 a2_0] 34 (0, 0)) (by (repeat refine bk ?_); refine blk_far ?_ NB102_118.out _; (repeat refine bk ?_); refine blk_far ?_ NB102_118.out _; (repeat refine bk ?_); exact BK102.out)) : gb119 ≠ gb102)); have n15_ := Aside0.mk ((by rw [hg]; exact Nat.ne_of_lt (blk_lt (g := gb103) (o := .cells #[.slice none 0 0, .slice none 0 0, .slice none 0 0, .slice none 0 0] 49 (0, 0)) (by (repeat refine bk ?_); refine blk_far ?_ NB103_118.out _; (repeat refine bk ?_); refine blk_far ?_ NB103_118.out _; (repeat refine bk ?_); exact BK103.out)) : gb103 ≠ gb119)); have n16_ := Aside0.mk ((by rw [hg]; exact Nat.ne_of_gt (blk_lt (g := gb103) (o := .cells #[.slice none 0 0, .slice none 0 0, .slice none 0 0, .slice none 0 0] 49 (0, 0)) (by (repeat refine bk ?_); refine blk_far ?_ NB103_118.out _; (repeat refine bk ?_); refine blk_far ?_ NB103_118.out _; (repeat refine bk ?_); exact BK103.out)) : gb119 ≠ gb103)); have n17_ := Aside0.mk ((by rw [hg]; exact Nat.ne_of_lt (blk_lt (g := gb113) (o := .cells #[.int .u64 t104, .int .u64 t105, .int .u64 t106, .int .u64 t107, .int .u64 t108, .int .u64 t109, .int .u64 t110, .int .u64 t111] 92 (0, 0)) (by (repeat refine bk ?_); refine blk_far ?_ NB113_118.out _; (repeat refine bk ?_); refine blk_far ?_ NB113_118.out _; (repeat refine bk ?_); exact BK113.out)) : gb113 ≠ gb119)); have n18_ := Aside0.mk ((by rw [hg]; exact Nat.ne_of_gt (blk_lt (g := gb113) (o := .cells #[.int .u64 t104, .int .u64 t105, .int .u64 t106, .int .u64 t107, .int .u64 t108, .int .u64 t109, .int .u64 t110, .int .u64 t111] 92 (0, 0)) (by (repeat refine bk ?_); refine blk_far ?_ NB113_118.out _; (repeat refine bk ?_); refine blk_far ?_ NB113_118.out _; (repeat refine bk ?_); exact BK113.out)) : gb119 ≠ gb113)); have n19_ := Aside0.mk ((by rw [hg]; exact Nat.ne_of_lt (blk_lt (g := gb116) (o := .cells #[u117000, .slice none 0 0, .slice none 0 0, .slice none 0 0] 49 (0, 0)) (by (repeat refine bk ?_); refine blk_far ?_ NB116_118.out _; (repeat refine bk ?_); refine blk_far ?_ NB116_118.out _; (repeat refine bk ?_); exact BK116.out)) : gb116 ≠ gb119)); have n20_ := Aside0.mk ((by rw [hg]; exact Nat.ne_of_gt (blk_lt (g := gb116) (o := .cells #[u117000, .slice none 0 0, .slice none 0 0, .slice none 0 0] 49 (0, 0)) (by (repeat refine bk ?_); refine blk_far ?_ NB116_118.out _; (repeat refine bk ?_); refine blk_far ?_ NB116_118.out _; (repeat refine bk ?_); exact BK116.out)) : gb119 ≠ gb116)); have n21_ := Aside0.mk ((by rw [hg]; exact Nat.ne_of_lt (blk_lt (g := gb118) (o := .cells #[.int .i64 ((rd_T78 l0 x44_2).f0), .slice A117_1 ((rd_T78 l0 x44_2).f1).length c117_1] 78 (0, 0)) (by (repeat refine bk ?_); refine blk_put (cs := #[.int .i64 ((rd_T78 l0 x44_2).f0), .slice none 0 0]) ?_ 1 _ rfl; (repeat refine bk ?_); refine blk_put (cs := #[.int .i64 0, .slice none 0 0]) ?_ 0 _ rfl; (repeat refine bk ?_); exact BK118.out)) : gb118 ≠ gb119)); have n22_ := Aside0.mk ((by rw [hg]; exact Nat.ne_of_gt (blk_lt (g := gb118) (o := .cells #[.int .i64 ((rd_T78 l0 x44_2).f0), .slice A117_1 ((rd_T78 l0 x44_2).f1).length c117_1] 78 (0, 0)) (by (repeat refine bk ?_); refine blk_put (cs := #[.int .i64 ((rd_T78 l0 x44_2).f0), .slice none 0 0]) ?_ 1 _ rfl; (repeat refine bk ?_); refine blk_put (cs := #[.int .i64 0, .slice none 0 0]) ?_ 0 _ rfl; (repeat refine bk ?_); exact BK118.out)) : gb119 ≠ gb118)); clear HO_117000 BK101 BK102 BK103 BK113 BK116 BK118 HB; have HO_117000 := n0_; have BK101 := n1_; have BK102 := n2_; have BK103 := n3_; have BK113 := n4_; have BK116 := n5_; have BK118 := n6_; have HB := n7_; have BK119 := n8_; have GW119 := n9_; have GE119 := n10_; have NB101_119 := n11_; have NB119_101 := n12_; have NB102_119 := n13_; have NB119_102 := n14_; have NB103_119 := n15_; have NB119_103 := n16_; have NB113_119 := n17_; have NB119_113 := n18_; have NB116_119 := n19_; have NB119_116 := n20_; have NB118_119 := n21_; have NB119_118 := n22_; clear n0_ n1_ n2_ n3_ n4_ n5_ n6_ n7_ n8_ n9_ n10_ n11_ n12_ n13_ n14_ n15_ n16_ n17_ n18_ n19_ n20_ n21_ n22_; clear hb hbox hg; have hnb50 := NB119_101.out; have hnc50 := NB101_119.out; have hnb51 := NB119_102.out; have hnc51 := NB102_119.out; have hnb52 := NB119_103.out; have hnc52 := NB103_119.out; have hnb53 := NB119_113.out; have hnc53 := NB113_119.out; have hnb54 := NB119_116.out; have hnc54 := NB116_119.out; have hnb55 := NB119_118.out; have hnc55 := NB118_119.out; have hcz56_0 : w49.cell? ⟨gb119, 0, none⟩ = some (.int .i64 0) := (blk_cell BK119.out 0).trans rfl; have hcz56_1 : w49.cell? ⟨gb119, 1, none⟩ = some (.slice none 0 0) := (blk_cell BK119.out 1).trans rfl; have hfz56_0 := blk_frozen BK119.out 0; have hfz56_1 := blk_frozen BK119.out 1; have hcz57_0 : w49.cell? ⟨gb118, 0, none⟩ = some (.int .i64 ((rd_T78 l0 x44_2).f0)) := (blk_cell BK118.out 0).trans rfl; have hcz57_1 : w49.cell? ⟨gb118, 1, none⟩ = some (.slice A117_1 ((rd_T78 l0 x44_2).f1).length c117_1) := (blk_cell BK118.out 1).trans rfl; have hfz57_0 := blk_frozen BK118.out 0; have hfz57_1 := blk_frozen BK118.out 1))
         go_loopg [54] k2 (fun kq v54 w' => ∃ (x54_3 : Int) (x120001_3 : List Int) (u120001 : Value), v54 = .int .i64 x54_3 ∧ Aside0 (band_Problem.l1 kq l0 (l0.length : Int) x44_2 ((rd_T78 l0 x44_2).f1) (((rd_T78 l0 x44_2).f1).length : Int) x54_3 l1_0 l1_1 l1_2 a2_0 t104 t105 t106 t107 t108 t109 t110 t111 x117000_2 ((rd_T78 l0 x44_2).f0) x120001_3 = some (r1, r2, r3, r4, r5)) ∧ Aside0 (kq ≤ k2) ∧ Aside0 (Kd.S k86 86 w' w.heap.size (fun k_ => some k_ ≠ (u120001 : Value).ownBlock ∧ k_ ≠ gb119) u117000 x117000_2) ∧ Aside0 (Kd.R (Kd.int .i64) 3 w' w.heap.size (fun _ => True) u120001 x120001_3) ∧ Aside0 (w'.heap[gb101]? = some (.cells #[(.slice A1_0 l1_0.length c1_0), (.slice A1_1 l1_1.length c1_1), (.slice A1_2 l1_2.length c1_2)] 44 (0, 0))) ∧ Aside0 (w'.heap[gb102]? = some (.cells #[.int .i64 a2_0] 34 (0, 0))) ∧ Aside0 (w'.heap[gb103]? = some (.cells #[(.slice none 0 0), (.slice none 0 0), (.slice none 0 0), (.slice none 0 0)] 49 (0, 0))) ∧ Aside0 (w'.heap[gb113]? = some (.cells #[.int .u64 t104, .int .u64 t105, .int .u64 t106, .int .u64 t107, .int .u64 t108, .int .u64 t109, .int .u64 t110, .int .u64 t111] 92 (0, 0))) ∧ Aside0 (w'.heap[gb116]? = some (.cells #[u117000, (.slice none 0 0), (.slice none 0 0), (.slice none 0 0)] 49 (0, 0))) ∧ Aside0 (w'.heap[gb118]? = some (.cells #[.int .i64 ((rd_T78 l0 x44_2).f0), (.slice A117_1 ((rd_T78 l0 x44_2).f1).length c117_1)] 78 (0, 0))) ∧ Aside0 (w'.heap[gb119]? = some (.cells #[.int .i64 ((rd_T78 l0 x44_2).f0), u120001] 86 (0, 0))) ∧ Aside0 (Below w.heap.size w w'))
         case atStart => exact ⟨(0), (([] : List Int)), (.slice none 0 0), (by first | rfl | (simp; done) | (simp [*]; done)), H', ⟨Nat.le_refl _⟩, ⟨by (with_reducible repeat (first | apply Kd.S_alloc | apply Kd.S_drewN | apply Kd.S_drew)); exact Kd.S_mono (Kd.S_far (p := ⟨gb119, 1, none⟩) (Kd.S_far (p := ⟨gb119, 0, none⟩) (Kd.S_mono HO_117000.out (fun k_ hk => (⟨hk, hk.2⟩ : _ ∧ k_ ≠ gb119))) (fun _ hk => hk.2) (.int .i64 ((rd_T78 l0 x44_2).f0))) (fun _ hk => hk.2) (.slice none 0 0)) (fun _ hk => ⟨(by simp [Value.ownBlock]), hk.1.2⟩)⟩, ⟨by first | exact Kd.R_nil _ _ _ _ _ | exact Kd.N_nil _ _ _ _ _ | exact Kd.V_nil _ _ _ _ _ | exact Kd.Q_nil _ _ _ _ _ | exact Kd.S_nil _ _ _ _ _⟩, ⟨by (repeat refine bk ?_); refine blk_far ?_ NB101_119.out _; (repeat refine bk ?_); refine blk_far ?_ NB101_119.out _; (repeat refine bk ?_); exact BK101.out⟩, ⟨by (repeat refine bk ?_); refine blk_far ?_ NB102_119.out _; (repeat refine bk ?_); refine blk_far ?_ NB102_119.out _; (repeat refine bk ?_); exact BK102.out⟩, ⟨by (repeat refine bk ?_); refine blk_far ?_ NB103_119.out _; (repeat refine bk ?_); refine blk_far ?_ NB103_119.out _; (repeat refine bk ?_); exact BK103.out⟩, ⟨by (repeat refine bk ?_); refine blk_far ?_ NB113_119.out _; (repeat refine bk ?_); refine blk_far ?_ NB113_119.out _; (repeat refine bk ?_); exact BK113.out⟩, ⟨by (repeat refine bk ?_); refine blk_far ?_ NB116_119.out _; (repeat refine bk ?_); refine blk_far ?_ NB116_119.out _; (repeat refine bk ?_); exact BK116.out⟩, ⟨by (repeat refine bk ?_); refine blk_far ?_ NB118_119.out _; (repeat refine bk ?_); refine blk_far ?_ NB118_119.out _; (repeat refine bk ?_); exact BK118.out⟩, ⟨by (repeat refine bk ?_); refine blk_put (cs := #[.int .i64 ((rd_T78 l0 x44_2).f0), .slice none 0 0]) ?_ 1 _ rfl; (repeat refine bk ?_); refine blk_put (cs := #[.int .i64 0, .slice none 0 0]) ?_ 0 _ rfl; (repeat refine bk ?_); exact BK119.out⟩, ⟨by repeat (first | (with_reducible first | exact HB.out | apply below_alloc | apply pw_below_drewN | apply below_drew1 | refine below_set ?_ (Aside0.out (by assumption))) | exact HB.out)⟩⟩
         case round =>
          clear H'
          try clear c1
          try clear p1
          try clear q1
          try clear hx1
          try clear c2
          try clear p2
          try clear c3
          try clear c4
          try clear c5
          try clear c11
          try clear p11
          try clear q11
          try clear hx11
          try clear c12
          try clear c13
          try clear c15
          try clear c17
          try clear c19
          try clear c20
          try clear c21
          try clear c24
          try clear c25
          try clear c28
          try clear c29
          try clear c30
          try clear c33
          try clear c34
          try clear c35
          try clear c36
          try clear c39
          try clear c39b0
          try clear c40
          try clear c40b0
          try clear c41
          try clear c41b0
          try clear c43
          try clear c44
          try clear c45
          try clear c46
          try clear c47
          try clear c50
          try clear c51
          try clear c52
          try clear c53
          try clear c54
          try clear c55
          try clear hcz14_0
          try clear hcz14_1
          try clear hcz14_2
          try clear hcz14_3
          try clear hcz14_4
          try clear hcz14_5
          try clear hcz14_6
          try clear hcz14_7
          try clear hcz22_0
          try clear hcz22_1
          try clear hcz22_2
          try clear hcz26_0
          try clear hcz31_0
          try clear hcz31_1
          try clear hcz31_2
          try clear hcz37_0
          try clear hcz37_1
          try clear hcz37_2
          try clear hcz37_3
          try clear hcz48_0
          try clear hcz48_1
          try clear hcz56_0
          try clear hcz56_1
          try clear hcz57_0
          try clear hcz57_1
          try clear hfz14_0
          try clear hfz14_1
          try clear hfz14_2
          try clear hfz14_3
          try clear hfz14_4
          try clear hfz14_5
          try clear hfz14_6
          try clear hfz14_7
          try clear hfz22_0
          try clear hfz22_1
          try clear hfz22_2
          try clear hfz26_0
          try clear hfz31_0
          try clear hfz31_1
          try clear hfz31_2
          try clear hfz37_0
          try clear hfz37_1
          try clear hfz37_2
          try clear hfz37_3
          try clear hfz48_0
          try clear hfz48_1
          try clear hfz56_0
          try clear hfz56_1
          try clear hfz57_0
          try clear hfz57_1
          try clear hx117_0
          try clear hx117_1
          try clear p117
          try clear p2
          try clear q117
          obtain ⟨x54_3, x120001_3, u120001, rfl, HA, HK3, HO_117000, HO_120001, BK101, BK102, BK103, BK113, BK116, BK118, BK119, HB⟩ := hrel
          cases gk with
          | zero => exact absurd HA.out (by simp [band_Problem.l1])
          | succ k3 =>
           have H := HA.out
           clear HA
           simp only [band_Problem.l1] at H
           by_cases c58 : x54_3 < (((rd_T78 l0 x44_2).f1).length : Int)
           ·
            rw [if_pos c58] at H
            have c58b0 : decide (x54_3 < (((rd_T78 l0 x44_2).f1).length : Int)) = true := decide_eq_true c58
            clear c58
            by_cases c59 : 0 ≤ x54_3
            ·
             rw [if_pos c59] at H
             have c59b0 : decide (0 ≤ x54_3) = true := decide_eq_true c59
             clear c59
             by_cases c60 : x54_3 < (((rd_T78 l0 x44_2).f1).length : Int)
             ·
              rw [if_pos c60] at H
              have c60b0 : decide (x54_3 < (((rd_T78 l0 x44_2).f1).length : Int)) = true := decide_eq_true c60
              clear c60
              replace H := Option.bind_eq_some_iff.mp H
              obtain ⟨⟨t121, t124⟩, A610, H⟩ := H
              replace H : (if x120001_3.length + t121.length < 17592186044416 then (band_Problem.l1 k3 l0 (l0.length : Int) x44_2 ((rd_T78 l0 x44_2).f1) (((rd_T78 l0 x44_2).f1).length : Int) (wrap64 (x54_3 + 1)) l1_0 l1_1 l1_2 a2_0 t104 t105 t106 t107 t108 t109 t110 t111 x117000_2 ((rd_T78 l0 x44_2).f0) (x120001_3 ++ t121)) else (none)) = some (r1, r2, r3, r4, r5) := H
              have A61 := Aside0.mk A610
              clear A610
              by_cases c62 : x120001_3.length + t121.length < 17592186044416
              ·
               rw [if_pos c62] at H
               have LMc62 := Aside0.mk c62
               clear c62
               obtain ⟨y125, hy125⟩ : ∃ y_ : List Int, y_ = (x120001_3 ++ t121) := ⟨_, rfl⟩
               replace H : (band_Problem.l1 k3 l0 (l0.length : Int) x44_2 ((rd_T78 l0 x44_2).f1) (((rd_T78 l0 x44_2).f1).length : Int) (wrap64 (x54_3 + 1)) l1_0 l1_1 l1_2 a2_0 t104 t105 t106 t107 t108 t109 t110 t111 x117000_2 ((rd_T78 l0 x44_2).f0) y125) = some (r1, r2, r3, r4, r5) := by first | (rw [hy125]; with_reducible exact H) | (have H2_ := (Option.bind_some _ _).symm.trans H; rw [hy125]; with_reducible exact H2_) | (have H2_ := (Option.bind_some _ _).symm.trans H; with_reducible exact H2_) | with_reducible exact H | (rw [hy125]; exact H) | exact H
               have Ny125 := Aside0.mk hy125
               clear hy125
               have H' := Aside0.mk H
               clear H
               have p120 : 0 ≤ (x54_3 : Int) := of_decide_eq_true (by first | (with_reducible assumption) | assumption)
               have q120 : x54_3 < (((rd_T78 l0 x44_2).f1).length : Int) := of_decide_eq_true (by first | (with_reducible assumption) | assumption)
               obtain ⟨ad120, e120, hx120_0⟩ := Kd.at_int HR117_1.out x54_3 p120 q120
               cases e120
               replace hx120_0 := (HB.out.cell (World.block_lt_of_cell? w _ hx120_0)).trans hx120_0
               replace p120 := eq_true p120
               replace q120 := eq_true q120
               have hnb63 := NB102_101.out
               have hnc63 := NB101_102.out
               have hnb64 := NB102_103.out
               have hnc64 := NB103_102.out
               have hnb65 := NB102_113.out
               have hnc65 := NB113_102.out
               have hnb66 := NB102_116.out
               have hnc66 := NB116_102.out
               have hnb67 := NB102_118.out
               have hnc67 := NB118_102.out
               have hnb68 := NB102_119.out
               have hnc68 := NB119_102.out
               have hcz69_0 : wr.cell? ⟨gb102, 0, none⟩ = some (.int .i64 a2_0) := (blk_cell BK102.out 0).trans rfl
               have hfz69_0 := blk_frozen BK102.out 0
               go_wp2_with (first | ((with_reducible refine gate_callee (f := 13) rfl ?_); refine goesL_ (some 61) rfl rfl Try.func13 (by kernel_rfl) rfl #[.int .i64 (rd ((rd_T78 l0 x44_2).f1) x54_3), .agg #[.int .i64 a2_0]] rfl (by (try simp only [List.map_toArray, List.map_cons, List.map_nil]); first | done | rfl | (simp only [List.length_drop, List.length_take]; rfl)) ?_; (with_reducible refine (band_Channels.calls (rd ((rd_T78 l0 x44_2).f1) x54_3) a2_0 t121 t124 _ A61.out).mono ?_); rintro e w70 ⟨v122, rfl, ho0, hb⟩; refine ⟨_, rfl, ?_⟩; have n0_ := Aside0.mk (Kd.S_elder' (by (with_reducible repeat (first | apply Kd.S_alloc | apply Kd.S_drewN | apply Kd.S_drew)); exact HO_117000.out) (Kd.R_base ho0) hb); have n1_ := Aside0.mk (Kd.R_elder' (by (with_reducible repeat (first | apply Kd.R_alloc | apply Kd.R_drewN | apply Kd.R_drew)); exact HO_120001.out) (Kd.R_base ho0) hb); have n2_ := Aside0.mk (Kd.R_lower (Kd.R_new' ho0 (Kd.R_lt (by (with_reducible repeat (first | apply Kd.R_alloc | apply Kd.R_drewN | apply Kd.R_drew)); exact HO_120001.out))) (below_size (by repeat (first | (with_reducible first | exact HB.out | apply below_alloc | apply pw_below_drewN | apply below_drew1 | refine below_set ?_ (Aside0.out (by assumption))) | exact HB.out)))); have n3_ := Aside0.mk (bb BK101.out hb); have n4_ := Aside0.mk (bb BK102.out hb); have n5_ := Aside0.mk (bb BK103.out hb); have n6_ := Aside0.mk (bb BK113.out hb); have n7_ := Aside0.mk (bb BK116.out hb); have n8_ := Aside0.mk (bb BK118.out hb); have n9_ := Aside0.mk (bb BK119.out hb); have n10_ := Aside0.mk (below_step (by repeat (first | (with_reducible first | exact HB.out | apply below_alloc | apply pw_below_drewN | apply below_drew1 | refine below_set ?_ (Aside0.out (by assumption))) | exact HB.out)) hb); clear HO_117000 HO_120001 BK101 BK102 BK103 BK113 BK116 BK118 BK119 HB; have HO_117000 := n0_; have HO_120001 := n1_; have HO123 := n2_; have BK101 := n3_; have BK102 := n4_; have BK103 := n5_; have BK113 := n6_; have BK116 := n7_; have BK118 := n8_; have BK119 := n9_; have HB := n10_; clear n0_ n1_ n2_ n3_ n4_ n5_ n6_ n7_ n8_ n9_ n10_; (try clear hb); (try clear hb2); (try clear hk); (try clear hi); (try clear ho0); have hnb71 := NB119_101.out; have hnc71 := NB101_119.out; have hnb72 := NB119_103.out; have hnc72 := NB103_119.out; have hnb73 := NB119_113.out; have hnc73 := NB113_119.out; have hnb74 := NB119_116.out; have hnc74 := NB116_119.out; have hnb75 := NB119_118.out; have hnc75 := NB118_119.out; have hcz76_0 : w70.cell? ⟨gb119, 0, none⟩ = some (.int .i64 ((rd_T78 l0 x44_2).f0)) := (blk_cell BK119.out 0).trans rfl; have hcz76_1 : w70.cell? ⟨gb119, 1, none⟩ = some (u120001) := (blk_cell BK119.out 1).trans rfl; have hfz76_0 := blk_frozen BK119.out 0; have hfz76_1 := blk_frozen BK119.out 1; obtain ⟨Ao78, co78, eo78⟩ := Kd.R_slice HO123.out; subst eo78) | ((with_reducible refine gate_builtin (b := .append) (xs := #[.tmp 65, .tmp 66]) rfl ?_); at_builtin; refine Kd.R_append_rows (Kd.int .i64) (w0 := w) w.heap.size rfl (.tmp 65) (.tmp 66) 30 3 (.int .i64 0) 8 rfl Try.underlying30 info3 rfl (by decide) (by omega) u120001 x120001_3 t121 _ _ _ (fun k_ => some k_ ≠ (.slice Ao78 t121.length co78 : Value).ownBlock) (fun _ => False) rfl rfl ?aO ?aR (fun _ _ h => h) (fun _ h => h.elim) ?aF ?aB ?aS ?aL ?_; (case aR => repeat (first | exact (Kd.R_reads' HO123.out).2.2 | (with_reducible refine Kd.C_alloc ?_ _) | (with_reducible refine Kd.C_drewN ?_ _) | (with_reducible refine Kd.C_drew ?_))); (case aB => exact (by repeat (first | (with_reducible first | exact HB.out | apply below_alloc | apply pw_below_drewN | apply below_drew1 | refine below_set ?_ (Aside0.out (by assumption))) | exact HB.out))); (case aF => exact (fun k_ hk => Kd.fresh' (Kd.R_lt (by (with_reducible repeat (first | apply Kd.R_alloc | apply Kd.R_drewN | apply Kd.R_drew)); exact HO123.out)) k_ hk)); (case aO => exact (by (with_reducible repeat (first | apply Kd.R_alloc | apply Kd.R_drewN | apply Kd.R_drew)); exact Kd.R_mono HO_120001.out (fun _ hk => hk.2))); (case aS => exact (below_size (by repeat (first | (with_reducible first | exact HB.out | apply below_alloc | apply pw_below_drewN | apply below_drew1 | refine below_set ?_ (Aside0.out (by assumption))) | exact HB.out)))); (case aL => have := LMc62.out; omega); intro v126 w77 ho hb hg hat; rw [← Ny125.out] at ho; have n0_ := Aside0.mk (Kd.S_after (ok := (fun k_ => some k_ ≠ (.slice Ao78 t121.length co78 : Value).ownBlock ∧ k_ ≠ gb119)) (by (with_reducible repeat (first | apply Kd.S_alloc | apply Kd.S_drewN | apply Kd.S_drew)); exact Kd.S_mono HO_117000.out (fun _ hk => ⟨⟨hk.2, hk.1.2⟩, hk.1.1⟩)) hg hat); have n1_ := Aside0.mk (bg BK101.out hg (Kd.R_ne HO_120001.out BK101.out (by decide))); have n2_ := Aside0.mk (bg BK102.out hg (Kd.R_ne HO_120001.out BK102.out (by decide))); have n3_ := Aside0.mk (bg BK103.out hg (Kd.R_ne HO_120001.out BK103.out (by decide))); have n4_ := Aside0.mk (bg BK113.out hg (Kd.R_ne HO_120001.out BK113.out (by decide))); have n5_ := Aside0.mk (bg BK116.out hg (Kd.R_ne HO_120001.out BK116.out (by decide))); have n6_ := Aside0.mk (bg BK118.out hg (Kd.R_ne HO_120001.out BK118.out (by decide))); have n7_ := Aside0.mk (bg BK119.out hg (Kd.R_ne HO_120001.out BK119.out (by decide))); have n8_ := Aside0.mk (Kd.R_after (ok := (fun _ => True)) (by (with_reducible repeat (first | apply Kd.R_alloc | apply Kd.R_drewN | apply Kd.R_drew)); exact HO123.out) hg hat); have n9_ := Aside0.mk (hb); have n10_ := Aside0.mk (ho); clear HO_117000 BK101 BK102 BK103 BK113 BK116 BK118 BK119 HO123 HB HO_120001; have HO_117000 := n0_; have BK101 := n1_; have BK102 := n2_; have BK103 := n3_; have BK113 := n4_; have BK116 := n5_; have BK118 := n6_; have BK119 := n7_; have HO123 := n8_; have HB := n9_; have HO127 := n10_; clear n0_ n1_ n2_ n3_ n4_ n5_ n6_ n7_ n8_ n9_ n10_; clear ho hb hg hat; obtain ⟨Ao79, co79, eo79⟩ := Kd.R_slice HO127.out; subst eo79; have hcz80_0 : w77.cell? ⟨gb119, 0, none⟩ = some (.int .i64 ((rd_T78 l0 x44_2).f0)) := (blk_cell BK119.out 0).trans rfl; have hcz80_1 : w77.cell? ⟨gb119, 1, none⟩ = some (u120001) := (blk_cell BK119.out 1).trans rfl; have hfz80_0 := blk_frozen BK119.out 0; have hfz80_1 := blk_frozen BK119.out 1))
               go_roundg k3
               case measure => have := HJ4.out; have := HK2.out; have := HK3.out; omega
               case rel => exact ⟨(wrap64 (x54_3 + 1)), (y125), (.slice Ao79 y125.length co79), (by first | rfl | (simp; done) | (simp [*]; done)), H', ⟨by have := HJ4.out; have := HK2.out; have := HK3.out; omega⟩, ⟨by (with_reducible repeat (first | apply Kd.S_alloc | apply Kd.S_drewN | apply Kd.S_drew)); exact Kd.S_mono (Kd.S_far (p := ⟨gb119, 1, none⟩) (Kd.S_mono HO_117000.out (fun k_ hk => (⟨hk, hk.1.2⟩ : _ ∧ k_ ≠ gb119))) (fun _ hk => hk.2) (.slice Ao79 y125.length co79)) (fun _ hk => ⟨hk.1.2, hk.1.1.2⟩)⟩, ⟨by (with_reducible repeat (first | apply Kd.R_alloc | apply Kd.R_drewN | apply Kd.R_drew)); exact Kd.R_mono (Kd.R_far (p := ⟨gb119, 1, none⟩) (Kd.R_types HO127.out BK119.out (by decide)) (fun _ hk => hk.2) (.slice Ao79 y125.length co79)) (fun _ hk => trivial)⟩, ⟨by (repeat refine bk ?_); refine blk_far ?_ NB101_119.out _; (repeat refine bk ?_); exact BK101.out⟩, ⟨by (repeat refine bk ?_); refine blk_far ?_ NB102_119.out _; (repeat refine bk ?_); exact BK102.out⟩, ⟨by (repeat refine bk ?_); refine blk_far ?_ NB103_119.out _; (repeat refine bk ?_); exact BK103.out⟩, ⟨by (repeat refine bk ?_); refine blk_far ?_ NB113_119.out _; (repeat refine bk ?_); exact BK113.out⟩, ⟨by (repeat refine bk ?_); refine blk_far ?_ NB116_119.out _; (repeat refine bk ?_); exact BK116.out⟩, ⟨by (repeat refine bk ?_); refine blk_far ?_ NB118_119.out _; (repeat refine bk ?_); exact BK118.out⟩, ⟨by (repeat refine bk ?_); refine blk_put (cs := #[.int .i64 ((rd_T78 l0 x44_2).f0), u120001]) ?_ 1 _ rfl; (repeat refine bk ?_); exact BK119.out⟩, ⟨by repeat (first | (with_reducible first | exact HB.out | apply below_alloc | apply pw_below_drewN | apply below_drew1 | refine below_set ?_ (Aside0.out (by assumption))) | exact HB.out)⟩⟩
              ·
               rw [if_neg c62] at H
               exact absurd H (by simp)
             ·
              rw [if_neg c60] at H
              exact absurd H (by simp)
            ·
             rw [if_neg c59] at H
             exact absurd H (by simp)
           ·
            rw [if_neg c58] at H
            have c58b0 : decide (x54_3 < (((rd_T78 l0 x44_2).f1).length : Int)) = false := decide_eq_false c58
            clear c58
            by_cases c81 : x117000_2.length < 4398046511104
            ·
             rw [if_pos c81] at H
             have LMc81 := Aside0.mk c81
             clear c81
             obtain ⟨y128, hy128⟩ : ∃ y_ : List (S86), y_ = (x117000_2 ++ [(⟨((rd_T78 l0 x44_2).f0), x120001_3⟩ : S86)]) := ⟨_, rfl⟩
             replace H : (band_Problem.l0 k3 l0 (l0.length : Int) (wrap64 (x44_2 + 1)) l1_0 l1_1 l1_2 a2_0 t104 t105 t106 t107 t108 t109 t110 t111 y128) = some (r1, r2, r3, r4, r5) := by first | (rw [hy128]; with_reducible exact H) | (have H2_ := (Option.bind_some _ _).symm.trans H; rw [hy128]; with_reducible exact H2_) | (have H2_ := (Option.bind_some _ _).symm.trans H; with_reducible exact H2_) | with_reducible exact H | (rw [hy128]; exact H) | exact H
             have Ny128 := Aside0.mk hy128
             clear hy128
             have H' := Aside0.mk H
             clear H
             have hnb82 := NB116_101.out
             have hnc82 := NB101_116.out
             have hnb83 := NB116_102.out
             have hnc83 := NB102_116.out
             have hnb84 := NB116_103.out
             have hnc84 := NB103_116.out
             have hnb85 := NB116_113.out
             have hnc85 := NB113_116.out
             have hnb86 := NB116_118.out
             have hnc86 := NB118_116.out
             have hnb87 := NB116_119.out
             have hnc87 := NB119_116.out
             obtain ⟨hcz88_0, hcz88_1, hcz88_2, hcz88_3⟩ := bc4 BK116.out
             obtain ⟨hfz88_0, hfz88_1, hfz88_2, hfz88_3⟩ := bz4 BK116.out
             have hnb89 := NB119_101.out
             have hnc89 := NB101_119.out
             have hnb90 := NB119_102.out
             have hnc90 := NB102_119.out
             have hnb91 := NB119_103.out
             have hnc91 := NB103_119.out
             have hnb92 := NB119_113.out
             have hnc92 := NB113_119.out
             have hnb93 := NB119_118.out
             have hnc93 := NB118_119.out
             have hcz94_0 : wr.cell? ⟨gb119, 0, none⟩ = some (.int .i64 ((rd_T78 l0 x44_2).f0)) := (blk_cell BK119.out 0).trans rfl
             have hcz94_1 : wr.cell? ⟨gb119, 1, none⟩ = some (u120001) := (blk_cell BK119.out 1).trans rfl
             have hfz94_0 := blk_frozen BK119.out 0
             have hfz94_1 := blk_frozen BK119.out 1
             obtain ⟨Ao96, co96, eo96⟩ := Kd.R_slice HO_120001.out
             subst eo96
             go_wp2_with (first | ((with_reducible refine gate_builtin (b := .append) (xs := #[.tmp 71, .tmp 73]) rfl ?_); at_builtin; refine Kd.S_append k86 (w0 := w) w.heap.size rfl (.tmp 71) (.tmp 73) 47 86 (.agg #[(.int .i64 0), (.slice none 0 0)]) 32 rfl Try.underlying47 info86 rfl (by decide) (by omega) u117000 x117000_2 (⟨((rd_T78 l0 x44_2).f0), x120001_3⟩ : S86) [.int .i64 ((rd_T78 l0 x44_2).f0), .slice Ao96 x120001_3.length co96] (fun k_ => k_ ≠ gb119) (fun k_ => some k_ = (.slice Ao96 x120001_3.length co96 : Value).ownBlock) rfl rfl ?aP (fun k_ hk_ => ((Kd.R_mono (ok' := fun k_ => ((fun k_ => k_ ≠ gb119)) k_ ∧ some k_ ≠ (u117000 : Value).ownBlock) (Kd.R_types (Kd.R_apart' (HO_120001.out) (Kd.S_typed HO_117000.out) (by decide)) BK119.out (by decide)) (fun k_ hk => ⟨hk.2, hk.1.2⟩))).1 k_ hk_.symm) ?aF ?aO ?aB ?aS ?aL ?_; (case aP => exact k86_mkM _ _ _ (⟨((rd_T78 l0 x44_2).f0), x120001_3⟩ : S86) (Kd.R_mono (Kd.R_tight rfl (Kd.R_mono (ok' := fun k_ => ((fun k_ => k_ ≠ gb119)) k_ ∧ some k_ ≠ (u117000 : Value).ownBlock) (Kd.R_types (Kd.R_apart' (HO_120001.out) (Kd.S_typed HO_117000.out) (by decide)) BK119.out (by decide)) (fun k_ hk => ⟨hk.2, hk.1.2⟩))) (fun _ h_ => h_))); (case aB => exact (by repeat (first | (with_reducible first | exact HB.out | apply below_alloc | apply pw_below_drewN | apply below_drew1 | refine below_set ?_ (Aside0.out (by assumption))) | exact HB.out))); (case aF => exact (fun k_ hk => Kd.freshB (g := gb119) (o := .cells #[.int .i64 ((rd_T78 l0 x44_2).f0), .slice Ao96 x120001_3.length co96] 86 (0, 0)) (by (repeat refine bk ?_); exact BK119.out) k_ hk)); (case aO => exact (by (with_reducible repeat (first | apply Kd.S_alloc | apply Kd.S_drewN | apply Kd.S_drew)); exact Kd.S_mono HO_117000.out (fun k_ hk => ⟨hk.2, fun e_ => hk.1 e_⟩))); (case aS => exact (below_size (by repeat (first | (with_reducible first | exact HB.out | apply below_alloc | apply pw_below_drewN | apply below_drew1 | refine below_set ?_ (Aside0.out (by assumption))) | exact HB.out)))); (case aL => have := LMc81.out; omega); intro v129 w95 ho hb hg hat; rw [← Ny128.out] at ho; have n0_ := Aside0.mk (bg BK101.out hg (Kd.S_ne HO_117000.out BK101.out (by decide))); have n1_ := Aside0.mk (bg BK102.out hg (Kd.S_ne HO_117000.out BK102.out (by decide))); have n2_ := Aside0.mk (bg BK103.out hg (Kd.S_ne HO_117000.out BK103.out (by decide))); have n3_ := Aside0.mk (bg BK113.out hg (Kd.S_ne HO_117000.out BK113.out (by decide))); have n4_ := Aside0.mk (bg BK116.out hg (Kd.S_ne HO_117000.out BK116.out (by decide))); have n5_ := Aside0.mk (bg BK118.out hg (Kd.S_ne HO_117000.out BK118.out (by decide))); have n6_ := Aside0.mk (bg BK119.out hg (Kd.S_away HO_117000.out (fun _ hk => hk.2))); have n7_ := Aside0.mk (hb); have n8_ := Aside0.mk (ho); clear BK101 BK102 BK103 BK113 BK116 BK118 BK119 HB HO_117000 HO_120001; have BK101 := n0_; have BK102 := n1_; have BK103 := n2_; have BK113 := n3_; have BK116 := n4_; have BK118 := n5_; have BK119 := n6_; have HB := n7_; have HO130 := n8_; clear n0_ n1_ n2_ n3_ n4_ n5_ n6_ n7_ n8_; clear ho hb hg hat; obtain ⟨Ao97, co97, eo97⟩ := Kd.S_slice HO130.out; subst eo97; obtain ⟨hcz98_0, hcz98_1, hcz98_2, hcz98_3⟩ := bc4 BK116.out; obtain ⟨hfz98_0, hfz98_1, hfz98_2, hfz98_3⟩ := bz4 BK116.out))
             go_roundg k3
             case measure => have := HJ4.out; have := HK2.out; have := HK3.out; omega
             case rel => exact ⟨(wrap64 (x44_2 + 1)), (y128), (.slice Ao97 y128.length co97), (by first | rfl | (simp; done) | (simp [*]; done)), H', ⟨by have := HJ4.out; have := HK2.out; have := HK3.out; omega⟩, ⟨by (with_reducible repeat (first | apply Kd.S_alloc | apply Kd.S_drewN | apply Kd.S_drew)); exact Kd.S_mono (Kd.S_far (p := ⟨gb116, 0, none⟩) (Kd.S_types HO130.out BK116.out (by decide)) (fun _ hk => hk.2) (.slice Ao97 y128.length co97)) (fun _ hk => trivial)⟩, ⟨by (repeat refine bk ?_); refine blk_far ?_ NB101_116.out _; (repeat refine bk ?_); exact BK101.out⟩, ⟨by (repeat refine bk ?_); refine blk_far ?_ NB102_116.out _; (repeat refine bk ?_); exact BK102.out⟩, ⟨by (repeat refine bk ?_); refine blk_far ?_ NB103_116.out _; (repeat refine bk ?_); exact BK103.out⟩, ⟨by (repeat refine bk ?_); refine blk_far ?_ NB113_116.out _; (repeat refine bk ?_); exact BK113.out⟩, ⟨by (repeat refine bk ?_); refine blk_put (cs := #[u117000, .slice none 0 0, .slice none 0 0, .slice none 0 0]) ?_ 0 _ rfl; (repeat refine bk ?_); exact BK116.out⟩, ⟨by repeat (first | (with_reducible first | exact HB.out | apply below_alloc | apply pw_below_drewN | apply below_drew1 | refine below_set ?_ (Aside0.out (by assumption))) | exact HB.out)⟩⟩
            ·
             rw [if_neg c81] at H
             exact absurd H (by simp)
        ·
         rw [if_neg c41] at H
         exact absurd H (by simp)
       ·
        rw [if_neg c40] at H
        exact absurd H (by simp)
      ·
       rw [if_neg c39] at H
       have c39b0 : decide (x44_2 < (l0.length : Int)) = false := decide_eq_false c39
       clear c39
       have H' := Aside0.mk H
       clear H
       have hnb99 := NB101_102.out
       have hnc99 := NB102_101.out
       have hnb100 := NB101_103.out
       have hnc100 := NB103_101.out
       have hnb101 := NB101_113.out
       have hnc101 := NB113_101.out
       have hnb102 := NB101_116.out
       have hnc102 := NB116_101.out
       obtain ⟨hcz103_0, hcz103_1, hcz103_2⟩ := bc3 BK101.out
       obtain ⟨hfz103_0, hfz103_1, hfz103_2⟩ := bz3 BK101.out
       go_wp2
       go_loopg [80] k2 (fun kq v80 w' => ∃ (x80_3 : Int) (x117001_3 : List (S84)) (u117001 : Value), v80 = .int .i64 x80_3 ∧ Aside0 (band_Problem.l2 kq l1_0 (l1_0.length : Int) x80_3 l1_0 l1_1 l1_2 t104 t105 t106 t107 t108 t109 t110 t111 x117000_2 x117001_3 = some (r1, r2, r3, r4, r5)) ∧ Aside0 (kq ≤ k2) ∧ Aside0 (Kd.S k86 86 w' w.heap.size (fun _ => True) u117000 x117000_2) ∧ Aside0 (Kd.R k84 84 w' w.heap.size (fun _ => True) u117001 x117001_3) ∧ Aside0 (w'.heap[gb101]? = some (.cells #[(.slice A1_0 l1_0.length c1_0), (.slice A1_1 l1_1.length c1_1), (.slice A1_2 l1_2.length c1_2)] 44 (0, 0))) ∧ Aside0 (w'.heap[gb102]? = some (.cells #[.int .i64 a2_0] 34 (0, 0))) ∧ Aside0 (w'.heap[gb103]? = some (.cells #[(.slice none 0 0), (.slice none 0 0), (.slice none 0 0), (.slice none 0 0)] 49 (0, 0))) ∧ Aside0 (w'.heap[gb113]? = some (.cells #[.int .u64 t104, .int .u64 t105, .int .u64 t106, .int .u64 t107, .int .u64 t108, .int .u64 t109, .int .u64 t110, .int .u64 t111] 92 (0, 0))) ∧ Aside0 (w'.heap[gb116]? = some (.cells #[u117000, u117001, (.slice none 0 0), (.slice none 0 0)] 49 (0, 0))) ∧ Aside0 (Below w.heap.size w w'))
       case atStart => exact ⟨(0), (([] : List (S84))), (.slice none 0 0), (by first | rfl | (simp; done) | (simp [*]; done)), H', ⟨Nat.le_refl _⟩, ⟨by (with_reducible repeat (first | apply Kd.S_alloc | apply Kd.S_drewN | apply Kd.S_drew)); exact HO_117000.out⟩, ⟨by first | exact Kd.R_nil _ _ _ _ _ | exact Kd.N_nil _ _ _ _ _ | exact Kd.V_nil _ _ _ _ _ | exact Kd.Q_nil _ _ _ _ _ | exact Kd.S_nil _ _ _ _ _⟩, ⟨by (repeat refine bk ?_); exact BK101.out⟩, ⟨by (repeat refine bk ?_); exact BK102.out⟩, ⟨by (repeat refine bk ?_); exact BK103.out⟩, ⟨by (repeat refine bk ?_); exact BK113.out⟩, ⟨by (repeat refine bk ?_); exact BK116.out⟩, ⟨by repeat (first | (with_reducible first | exact HB.out | apply below_alloc | apply pw_below_drewN | apply below_drew1 | refine below_set ?_ (Aside0.out (by assumption))) | exact HB.out)⟩⟩
       case round =>
        clear H'
        try clear c1
        try clear p1
        try clear q1
        try clear hx1
        try clear c2
        try clear p2
        try clear c3
        try clear c4
        try clear c5
        try clear c6
        try clear p6
        try clear c7
        try clear c8
        try clear c9
        try clear c10
        try clear c11
        try clear p11
        try clear q11
        try clear hx11
        try clear c12
        try clear p12
        try clear q12
        try clear hx12
        try clear c13
        try clear c15
        try clear c17
        try clear c19
        try clear c20
        try clear c21
        try clear c24
        try clear c25
        try clear c28
        try clear c29
        try clear c30
        try clear c33
        try clear c34
        try clear c35
        try clear c36
        try clear c39
        try clear c39b0
        try clear c40
        try clear c40b0
        try clear c41
        try clear c41b0
        try clear c43
        try clear c44
        try clear c45
        try clear c46
        try clear c47
        try clear c50
        try clear c51
        try clear c52
        try clear c53
        try clear c54
        try clear c55
        try clear c58
        try clear c58b0
        try clear c59
        try clear c59b0
        try clear c60
        try clear c60b0
        try clear c62
        try clear c63
        try clear c64
        try clear p64
        try clear c65
        try clear c66
        try clear c67
        try clear c68
        try clear c71
        try clear c72
        try clear c73
        try clear c74
        try clear c75
        try clear c81
        try clear c82
        try clear c83
        try clear c84
        try clear c85
        try clear c86
        try clear c87
        try clear c89
        try clear c90
        try clear c91
        try clear c92
        try clear c93
        try clear c99
        try clear c100
        try clear c101
        try clear c102
        try clear hcz103_0
        try clear hcz103_1
        try clear hcz103_2
        try clear hcz14_0
        try clear hcz14_1
        try clear hcz14_2
        try clear hcz14_3
        try clear hcz14_4
        try clear hcz14_5
        try clear hcz14_6
        try clear hcz14_7
        try clear hcz22_0
        try clear hcz22_1
        try clear hcz22_2
        try clear hcz26_0
        try clear hcz31_0
        try clear hcz31_1
        try clear hcz31_2
        try clear hcz37_0
        try clear hcz37_1
        try clear hcz37_2
        try clear hcz37_3
        try clear hcz48_0
        try clear hcz48_1
        try clear hcz56_0
        try clear hcz56_1
        try clear hcz57_0
        try clear hcz57_1
        try clear hcz69_0
        try clear hcz76_0
        try clear hcz76_1
        try clear hcz80_0
        try clear hcz80_1
        try clear hcz88_0
        try clear hcz88_1
        try clear hcz88_2
        try clear hcz88_3
        try clear hcz94_0
        try clear hcz94_1
        try clear hcz98_0
        try clear hcz98_1
        try clear hcz98_2
        try clear hcz98_3
        try clear hfz103_0
        try clear hfz103_1
        try clear hfz103_2
        try clear hfz14_0
        try clear hfz14_1
        try clear hfz14_2
        try clear hfz14_3
        try clear hfz14_4
        try clear hfz14_5
        try clear hfz14_6
        try clear hfz14_7
        try clear hfz22_0
        try clear hfz22_1
        try clear hfz22_2
        try clear hfz26_0
        try clear hfz31_0
        try clear hfz31_1
        try clear hfz31_2
        try clear hfz37_0
        try clear hfz37_1
        try clear hfz37_2
        try clear hfz37_3
        try clear hfz48_0
        try clear hfz48_1
        try clear hfz56_0
        try clear hfz56_1
        try clear hfz57_0
        try clear hfz57_1
        try clear hfz69_0
        try clear hfz76_0
        try clear hfz76_1
        try clear hfz80_0
        try clear hfz80_1
        try clear hfz88_0
        try clear hfz88_1
        try clear hfz88_2
        try clear hfz88_3
        try clear hfz94_0
        try clear hfz94_1
        try clear hfz98_0
        try clear hfz98_1
        try clear hfz98_2
        try clear hfz98_3
        try clear hx117_0
        try clear hx117_1
        try clear hx120_0
        try clear p1
        try clear p11
        try clear p117
        try clear p120
        try clear p2
        try clear q1
        try clear q11
        try clear q117
        try clear q120
        obtain ⟨x80_3, x117001_3, u117001, rfl, HA, HK3, HO_117000, HO_117001, BK101, BK102, BK103, BK113, BK116, HB⟩ := hrel
        cases gk with
        | zero => exact absurd HA.out (by simp [band_Problem.l2])
        | succ k3 =>
         have H := HA.out
         clear HA
         simp only [band_Problem.l2] at H
         by_cases c104 : x80_3 < (l1_0.length : Int)
         ·
          rw [if_pos c104] at H
          have c104b0 : decide (x80_3 < (l1_0.length : Int)) = true := decide_eq_true c104
          clear c104
          by_cases c105 : 0 ≤ x80_3
          ·
           rw [if_pos c105] at H
           have c105b0 : decide (0 ≤ x80_3) = true := decide_eq_true c105
           clear c105
           by_cases c106 : x80_3 < (l1_0.length : Int)
           ·
            rw [if_pos c106] at H
            have c106b0 : decide (x80_3 < (l1_0.length : Int)) = true := decide_eq_true c106
            clear c106
            replace H := Option.bind_eq_some_iff.mp H
            obtain ⟨t133, A1070, H⟩ := H
            replace H : (if t133 = true then ((bitset_Set_Has.f t104 t105 t106 t107 t108 t109 t110 t111 ((rd_T84 l1_0 x80_3).f1)).bind fun t134 => (if t134 = true then (if x117001_3.length < 3518437208883 then (band_Problem.l2 k3 l1_0 (l1_0.length : Int) (wrap64 (x80_3 + 1)) l1_0 l1_1 l1_2 t104 t105 t106 t107 t108 t109 t110 t111 x117000_2 (x117001_3 ++ [(⟨(rd_T84 l1_0 x80_3).f0, (rd_T84 l1_0 x80_3).f1, (rd_T84 l1_0 x80_3).f2, (rd_T84 l1_0 x80_3).f3, (rd_T84 l1_0 x80_3).f4⟩ : S84)])) else (none)) else (band_Problem.l2 k3 l1_0 (l1_0.length : Int) (wrap64 (x80_3 + 1)) l1_0 l1_1 l1_2 t104 t105 t106 t107 t108 t109 t110 t111 x117000_2 x117001_3))) else (band_Problem.l2 k3 l1_0 (l1_0.length : Int) (wrap64 (x80_3 + 1)) l1_0 l1_1 l1_2 t104 t105 t106 t107 t108 t109 t110 t111 x117000_2 x117001_3)) = some (r1, r2, r3, r4, r5) := H
            have A107 := Aside0.mk A1070
            clear A1070
            by_cases c108 : t133 = true
            ·
             subst c108
             have H1 : ((bitset_Set_Has.f t104 t105 t106 t107 t108 t109 t110 t111 ((rd_T84 l1_0 x80_3).f1)).bind fun t134 => (if t134 = true then (if x117001_3.length < 3518437208883 then (band_Problem.l2 k3 l1_0 (l1_0.length : Int) (wrap64 (x80_3 + 1)) l1_0 l1_1 l1_2 t104 t105 t106 t107 t108 t109 t110 t111 x117000_2 (x117001_3 ++ [(⟨(rd_T84 l1_0 x80_3).f0, (rd_T84 l1_0 x80_3).f1, (rd_T84 l1_0 x80_3).f2, (rd_T84 l1_0 x80_3).f3, (rd_T84 l1_0 x80_3).f4⟩ : S84)])) else (none)) else (band_Problem.l2 k3 l1_0 (l1_0.length : Int) (wrap64 (x80_3 + 1)) l1_0 l1_1 l1_2 t104 t105 t106 t107 t108 t109 t110 t111 x117000_2 x117001_3))) = some (r1, r2, r3, r4, r5) := by rw [if_pos rfl] at H; exact H
             clear H
             have H := H1
             clear H1
             replace H := Option.bind_eq_some_iff.mp H
             obtain ⟨t134, A1090, H⟩ := H
             replace H : (if t134 = true then (if x117001_3.length < 3518437208883 then (band_Problem.l2 k3 l1_0 (l1_0.length : Int) (wrap64 (x80_3 + 1)) l1_0 l1_1 l1_2 t104 t105 t106 t107 t108 t109 t110 t111 x117000_2 (x117001_3 ++ [(⟨(rd_T84 l1_0 x80_3).f0, (rd_T84 l1_0 x80_3).f1, (rd_T84 l1_0 x80_3).f2, (rd_T84 l1_0 x80_3).f3, (rd_T84 l1_0 x80_3).f4⟩ : S84)])) else (none)) else (band_Problem.l2 k3 l1_0 (l1_0.length : Int) (wrap64 (x80_3 + 1)) l1_0 l1_1 l1_2 t104 t105 t106 t107 t108 t109 t110 t111 x117000_2 x117001_3)) = some (r1, r2, r3, r4, r5) := H
             have A109 := Aside0.mk A1090
             clear A1090
             by_cases c110 : t134 = true
             ·
              subst c110
              have H1 : (if x117001_3.length < 3518437208883 then (band_Problem.l2 k3 l1_0 (l1_0.length : Int) (wrap64 (x80_3 + 1)) l1_0 l1_1 l1_2 t104 t105 t106 t107 t108 t109 t110 t111 x117000_2 (x117001_3 ++ [(⟨(rd_T84 l1_0 x80_3).f0, (rd_T84 l1_0 x80_3).f1, (rd_T84 l1_0 x80_3).f2, (rd_T84 l1_0 x80_3).f3, (rd_T84 l1_0 x80_3).f4⟩ : S84)])) else (none)) = some (r1, r2, r3, r4, r5) := by rw [if_pos rfl] at H; exact H
              clear H
              have H := H1
              clear H1
              by_cases c111 : x117001_3.length < 3518437208883
              ·
               rw [if_pos c111] at H
               have LMc111 := Aside0.mk c111
               clear c111
               obtain ⟨y135, hy135⟩ : ∃ y_ : List (S84), y_ = (x117001_3 ++ [(⟨(rd_T84 l1_0 x80_3).f0, (rd_T84 l1_0 x80_3).f1, (rd_T84 l1_0 x80_3).f2, (rd_T84 l1_0 x80_3).f3, (rd_T84 l1_0 x80_3).f4⟩ : S84)]) := ⟨_, rfl⟩
               replace H : (band_Problem.l2 k3 l1_0 (l1_0.length : Int) (wrap64 (x80_3 + 1)) l1_0 l1_1 l1_2 t104 t105 t106 t107 t108 t109 t110 t111 x117000_2 y135) = some (r1, r2, r3, r4, r5) := by first | (rw [hy135]; with_reducible exact H) | (have H2_ := (Option.bind_some _ _).symm.trans H; rw [hy135]; with_reducible exact H2_) | (have H2_ := (Option.bind_some _ _).symm.trans H; with_reducible exact H2_) | with_reducible exact H | (rw [hy135]; exact H) | exact H
               have Ny135 := Aside0.mk hy135
               clear hy135
               have H' := Aside0.mk H
               clear H
               have p131 : 0 ≤ (x80_3 : Int) := of_decide_eq_true (by first | (with_reducible assumption) | assumption)
               have q131 : x80_3 < (l1_0.length : Int) := of_decide_eq_true (by first | (with_reducible assumption) | assumption)
               obtain ⟨ad131, e131, hx131_0, hx131_1, hx131_2, hx131_3, hx131_4⟩ := at_T84 HR1_0.out x80_3 p131 q131
               cases e131
               replace hx131_0 := (HB.out.cell (World.block_lt_of_cell? w _ hx131_0)).trans hx131_0
               replace hx131_1 := (HB.out.cell (World.block_lt_of_cell? w _ hx131_1)).trans hx131_1
               replace hx131_2 := (HB.out.cell (World.block_lt_of_cell? w _ hx131_2)).trans hx131_2
               replace hx131_3 := (HB.out.cell (World.block_lt_of_cell? w _ hx131_3)).trans hx131_3
               replace hx131_4 := (HB.out.cell (World.block_lt_of_cell? w _ hx131_4)).trans hx131_4
               replace p131 := eq_true p131
               replace q131 := eq_true q131
               go_wp2_with (first | ((with_reducible refine gate_dst (N := 19) rfl ?_); refine box_event ?hg (N := 19) ?hd (cs := #[.int .i64 0, .int .i64 0, .int .i64 0, .int .i64 0, .int .i64 0]) (t := 84) ?hr ?_; (case hd => rfl); (case hg => rfl); (case hr => first | (go_simp; done) | (go_simp; rfl)); intro gb132 hg w112 hbox hb; have n0_ := Aside0.mk (Kd.S_below (by (with_reducible repeat (first | apply Kd.S_alloc | apply Kd.S_drewN | apply Kd.S_drew)); exact HO_117000.out) hb); have n1_ := Aside0.mk (Kd.R_below (Kd.R_elderB (by (with_reducible repeat (first | apply Kd.R_alloc | apply Kd.R_drewN | apply Kd.R_drew)); exact HO_117001.out) gb132 (Nat.le_of_eq hg.symm)) hb); have n2_ := Aside0.mk (bb BK101.out hb); have n3_ := Aside0.mk (bb BK102.out hb); have n4_ := Aside0.mk (bb BK103.out hb); have n5_ := Aside0.mk (bb BK113.out hb); have n6_ := Aside0.mk (bb BK116.out hb); have n7_ := Aside0.mk (below_step (by repeat (first | (with_reducible first | exact HB.out | apply below_alloc | apply pw_below_drewN | apply below_drew1 | refine below_set ?_ (Aside0.out (by assumption))) | exact HB.out)) hb); have n8_ := Aside0.mk (hbox); have n9_ := Aside0.mk ((by rw [hg]; exact (below_size (by repeat (first | (with_reducible first | exact HB.out | apply below_alloc | apply pw_below_drewN | apply below_drew1 | refine below_set ?_ (Aside0.out (by assumption))) | exact HB.out))) : w.heap.size ≤ gb132)); have n10_ := Aside0.mk ((by rw [hg]; exact (below_size (by repeat (first | (with_reducible first | exact HB.out | apply below_alloc | apply pw_below_drewN | apply below_drew1 | refine below_set ?_ (Aside0.out (by assumption))) | exact HB.out))) : w.heap.size ≤ gb132)); have n11_ := Aside0.mk ((by rw [hg]; exact Nat.ne_of_lt (bl BK101.out) : gb101 ≠ gb132)); have n12_ := Aside0.mk ((by rw [hg]; exact Nat.ne_of_gt (bl BK101.out) : gb132 ≠ gb101)); have n13_ := Aside0.mk ((by rw [hg]; exact Nat.ne_of_lt (bl BK102.out) : gb102 ≠ gb132)); have n14_ := Aside0.mk ((by rw [hg]; exact Nat.ne_of_gt (bl BK102.out) : gb132 ≠ gb102)); have n15_ := Aside0.mk ((by rw [hg]; exact Nat.ne_of_lt (bl BK103.out) : gb103 ≠ gb132)); have n16_ := Aside0.mk ((by rw [hg]; exact Nat.ne_of_gt (bl BK103.out) : gb132 ≠ gb103)); have n17_ := Aside0.mk ((by rw [hg]; exact Nat.ne_of_lt (bl BK113.out) : gb113 ≠ gb132)); have n18_ := Aside0.mk ((by rw [hg]; exact Nat.ne_of_gt (bl BK113.out) : gb132 ≠ gb113)); have n19_ := Aside0.mk ((by rw [hg]; exact Nat.ne_of_lt (bl BK116.out) : gb116 ≠ gb132)); have n20_ := Aside0.mk ((by rw [hg]; exact Nat.ne_of_gt (bl BK116.out) : gb132 ≠ gb116)); clear HO_117000 HO_117001 BK101 BK102 BK103 BK113 BK116 HB; have HO_117000 := n0_; have HO_117001 := n1_; have BK101 := n2_; have BK102 := n3_; have BK103 := n4_; have BK113 := n5_; have BK116 := n6_; have HB := n7_; have BK132 := n8_; have GW132 := n9_; have GE132 := n10_; have NB101_132 := n11_; have NB132_101 := n12_; have NB102_132 := n13_; have NB132_102 := n14_; have NB103_132 := n15_; have NB132_103 := n16_; have NB113_132 := n17_; have NB132_113 := n18_; have NB116_132 := n19_; have NB132_116 := n20_; clear n0_ n1_ n2_ n3_ n4_ n5_ n6_ n7_ n8_ n9_ n10_ n11_ n12_ n13_ n14_ n15_ n16_ n17_ n18_ n19_ n20_; clear hb hbox hg; have hnb113 := NB132_101.out; have hnc113 := NB101_132.out; have hnb114 := NB132_102.out; have hnc114 := NB102_132.out; have hnb115 := NB132_103.out; have hnc115 := NB103_132.out; have hnb116 := NB132_113.out; have hnc116 := NB113_132.out; have hnb117 := NB132_116.out; have hnc117 := NB116_132.out; obtain ⟨hcz118_0, hcz118_1, hcz118_2, hcz118_3, hcz118_4⟩ := bc5 BK132.out; obtain ⟨hfz118_0, hfz118_1, hfz118_2, hfz118_3, hfz118_4⟩ := bz5 BK132.out; have hnb119 := NB113_101.out; have hnc119 := NB101_113.out; have hnb120 := NB113_102.out; have hnc120 := NB102_113.out; have hnb121 := NB113_103.out; have hnc121 := NB103_113.out; have hnb122 := NB113_116.out; have hnc122 := NB116_113.out; obtain ⟨hcz123_0, hcz123_1, hcz123_2, hcz123_3, hcz123_4, hcz123_5, hcz123_6, hcz123_7⟩ := bc8 BK113.out; obtain ⟨hfz123_0, hfz123_1, hfz123_2, hfz123_3, hfz123_4, hfz123_5, hfz123_6, hfz123_7⟩ := bz8 BK113.out) | ((with_reducible refine gate_callee (f := 43) rfl ?_); refine goesL_ (some 87) rfl rfl Try.func43 (by kernel_rfl) rfl #[.agg #[.int .u64 t104, .int .u64 t105, .int .u64 t106, .int .u64 t107, .int .u64 t108, .int .u64 t109, .int .u64 t110, .int .u64 t111], .int .i64 ((rd_T84 l1_0 x80_3).f0)] rfl (by (try simp only [List.map_toArray, List.map_cons, List.map_nil]); first | done | rfl | (simp only [List.length_drop, List.length_take]; rfl)) ?_; (with_reducible refine (bitset_Set_Has.calls t104 t105 t106 t107 t108 t109 t110 t111 ((rd_T84 l1_0 x80_3).f0) true _ A107.out).mono ?_); rintro e w124 ⟨rfl, hb⟩; refine ⟨_, rfl, ?_⟩; have n0_ := Aside0.mk (Kd.S_below (by (with_reducible repeat (first | apply Kd.S_alloc | apply Kd.S_drewN | apply Kd.S_drew)); exact (Kd.S_mono (Kd.S_far (p := ⟨gb132, 4, none⟩) (Kd.S_far (p := ⟨gb132, 3, none⟩) (Kd.S_far (p := ⟨gb132, 2, none⟩) (Kd.S_far (p := ⟨gb132, 1, none⟩) (Kd.S_far (p := ⟨gb132, 0, none⟩) (Kd.S_types HO_117000.out BK132.out (by decide)) (fun _ hk => hk.2) (.int .i64 ((rd_T84 l1_0 x80_3).f0))) (fun _ hk => hk.2) (.int .i64 ((rd_T84 l1_0 x80_3).f1))) (fun _ hk => hk.2) (.int .i64 ((rd_T84 l1_0 x80_3).f2))) (fun _ hk => hk.2) (.int .i64 ((rd_T84 l1_0 x80_3).f3))) (fun _ hk => hk.2) (.int .i64 ((rd_T84 l1_0 x80_3).f4))) (fun _ h_ => h_.1))) hb); have n1_ := Aside0.mk (Kd.R_below (by (with_reducible repeat (first | apply Kd.R_alloc | apply Kd.R_drewN | apply Kd.R_drew)); exact (Kd.R_mono (Kd.R_far (p := ⟨gb132, 4, none⟩) (Kd.R_far (p := ⟨gb132, 3, none⟩) (Kd.R_far (p := ⟨gb132, 2, none⟩) (Kd.R_far (p := ⟨gb132, 1, none⟩) (Kd.R_far (p := ⟨gb132, 0, none⟩) (Kd.R_mono HO_117001.out (fun k_ hk => (⟨hk, hk.2⟩ : _ ∧ k_ ≠ gb132))) (fun _ hk => hk.2) (.int .i64 ((rd_T84 l1_0 x80_3).f0))) (fun _ hk => hk.2) (.int .i64 ((rd_T84 l1_0 x80_3).f1))) (fun _ hk => hk.2) (.int .i64 ((rd_T84 l1_0 x80_3).f2))) (fun _ hk => hk.2) (.int .i64 ((rd_T84 l1_0 x80_3).f3))) (fun _ hk => hk.2) (.int .i64 ((rd_T84 l1_0 x80_3).f4))) (fun _ h_ => h_.1))) hb); have n2_ := Aside0.mk (blk_below (g := gb101) (o := .cells #[.slice (some ad131) l1_0.length c1_0, .slice A1_1 l1_1.length c1_1, .slice A1_2 l1_2.length c1_2] 44 (0, 0)) (by (repeat refine bk ?_); refine blk_far ?_ NB101_132.out _; (repeat refine bk ?_); refine blk_far ?_ NB101_132.out _; (repeat refine bk ?_); refine blk_far ?_ NB101_132.out _; (repeat refine bk ?_); refine blk_far ?_ NB101_132.out _; (repeat refine bk ?_); refine blk_far ?_ NB101_132.out _; (repeat refine bk ?_); exact BK101.out) hb); have n3_ := Aside0.mk (blk_below (g := gb102) (o := .cells #[.int .i64 a2_0] 34 (0, 0)) (by (repeat refine bk ?_); refine blk_far ?_ NB102_132.out _; (repeat refine bk ?_); refine blk_far ?_ NB102_132.out _; (repeat refine bk ?_); refine blk_far ?_ NB102_132.out _; (repeat refine bk ?_); refine blk_far ?_ NB102_132.out _; (repeat refine bk ?_); refine blk_far ?_ NB102_132.out _; (repeat refine bk ?_); exact BK102.out) hb); have n4_ := Aside0.mk (blk_below (g := gb103) (o := .cells #[.slice none 0 0, .slice none 0 0, .slice none 0 0, .slice none 0 0] 49 (0, 0)) (by (repeat refine bk ?_); refine blk_far ?_ NB103_132.out _; (repeat refine bk ?_); refine blk_far ?_ NB103_132.out _; (repeat refine bk ?_); refine blk_far ?_ NB103_132.out _; (repeat refine bk ?_); refine blk_far ?_ NB103_132.out _; (repeat refine bk ?_); refine blk_far ?_ NB103_132.out _; (repeat refine bk ?_); exact BK103.out) hb); have n5_ := Aside0.mk (blk_below (g := gb113) (o := .cells #[.int .u64 t104, .int .u64 t105, .int .u64 t106, .int .u64 t107, .int .u64 t108, .int .u64 t109, .int .u64 t110, .int .u64 t111] 92 (0, 0)) (by (repeat refine bk ?_); refine blk_far ?_ NB113_132.out _; (repeat refine bk ?_); refine blk_far ?_ NB113_132.out _; (repeat refine bk ?_); refine blk_far ?_ NB113_132.out _; (repeat refine bk ?_); refine blk_far ?_ NB113_132.out _; (repeat refine bk ?_); refine blk_far ?_ NB113_132.out _; (repeat refine bk ?_); exact BK113.out) hb); have n6_ := Aside0.mk (blk_below (g := gb116) (o := .cells #[u117000, u117001, .slice none 0 0, .slice none 0 0] 49 (0, 0)) (by (repeat refine bk ?_); refine blk_far ?_ NB116_132.out _; (repeat refine bk ?_); refine blk_far ?_ NB116_132.out _; (repeat refine bk ?_); refine blk_far ?_ NB116_132.out _; (repeat refine bk ?_); refine blk_far ?_ NB116_132.out _; (repeat refine bk ?_); refine blk_far ?_ NB116_132.out _; (repeat refine bk ?_); exact BK116.out) hb); have n7_ := Aside0.mk (blk_below (g := gb132) (o := .cells #[.int .i64 ((rd_T84 l1_0 x80_3).f0), .int .i64 ((rd_T84 l1_0 x80_3).f1), .int .i64 ((rd_T84 l1_0 x80_3).f2), .int .i64 ((rd_T84 l1_0 x80_3).f3), .int .i64 ((rd_T84 l1_0 x80_3).f4)] 84 (0, 0)) (by (repeat refine bk ?_); refine blk_put (cs := #[.int .i64 ((rd_T84 l1_0 x80_3).f0), .int .i64 ((rd_T84 l1_0 x80_3).f1), .int .i64 ((rd_T84 l1_0 x80_3).f2), .int .i64 ((rd_T84 l1_0 x80_3).f3), .int .i64 0]) ?_ 4 _ rfl; (repeat refine bk ?_); refine blk_put (cs := #[.int .i64 ((rd_T84 l1_0 x80_3).f0), .int .i64 ((rd_T84 l1_0 x80_3).f1), .int .i64 ((rd_T84 l1_0 x80_3).f2), .int .i64 0, .int .i64 0]) ?_ 3 _ rfl; (repeat refine bk ?_); refine blk_put (cs := #[.int .i64 ((rd_T84 l1_0 x80_3).f0), .int .i64 ((rd_T84 l1_0 x80_3).f1), .int .i64 0, .int .i64 0, .int .i64 0]) ?_ 2 _ rfl; (repeat refine bk ?_); refine blk_put (cs := #[.int .i64 ((rd_T84 l1_0 x80_3).f0), .int .i64 0, .int .i64 0, .int .i64 0, .int .i64 0]) ?_ 1 _ rfl; (repeat refine bk ?_); refine blk_put (cs := #[.int .i64 0, .int .i64 0, .int .i64 0, .int .i64 0, .int .i64 0]) ?_ 0 _ rfl; (repeat refine bk ?_); exact BK132.out) hb); have n8_ := Aside0.mk (below_step (by repeat (first | (with_reducible first | exact HB.out | apply below_alloc | apply pw_below_drewN | apply below_drew1 | refine below_set ?_ (Aside0.out (by assumption))) | exact HB.out)) hb); clear HO_117000 HO_117001 BK101 BK102 BK103 BK113 BK116 BK132 HB; have HO_117000 := n0_; have HO_117001 := n1_; have BK101 := n2_; have BK102 := n3_; have BK103 := n4_; have BK113 := n5_; have BK116 := n6_; have BK132 := n7_; have HB := n8_; clear n0_ n1_ n2_ n3_ n4_ n5_ n6_ n7_ n8_; (try clear hb); (try clear hb2); (try clear hk); (try clear hi); obtain ⟨hcz125_0, hcz125_1, hcz125_2, hcz125_3, hcz125_4, hcz125_5, hcz125_6, hcz125_7⟩ := bc8 BK113.out; obtain ⟨hfz125_0, hfz125_1, hfz125_2, hfz125_3, hfz125_4, hfz125_5, hfz125_6, hfz125_7⟩ := bz8 BK113.out; obtain ⟨hcz126_0, hcz126_1, hcz126_2, hcz126_3, hcz126_4⟩ := bc5 BK132.out; obtain ⟨hfz126_0, hfz126_1, hfz126_2, hfz126_3, hfz126_4⟩ := bz5 BK132.out) | (go_at_call 43; (with_reducible refine (bitset_Set_Has.calls t104 t105 t106 t107 t108 t109 t110 t111 ((rd_T84 l1_0 x80_3).f1) true _ A109.out).mono ?_); rintro e w127 ⟨rfl, hb⟩; have n0_ := Aside0.mk (Kd.S_below (by (with_reducible repeat (first | apply Kd.S_alloc | apply Kd.S_drewN | apply Kd.S_drew)); exact HO_117000.out) hb); have n1_ := Aside0.mk (Kd.R_below (by (with_reducible repeat (first | apply Kd.R_alloc | apply Kd.R_drewN | apply Kd.R_drew)); exact HO_117001.out) hb); have n2_ := Aside0.mk (bb BK101.out hb); have n3_ := Aside0.mk (bb BK102.out hb); have n4_ := Aside0.mk (bb BK103.out hb); have n5_ := Aside0.mk (bb BK113.out hb); have n6_ := Aside0.mk (bb BK116.out hb); have n7_ := Aside0.mk (bb BK132.out hb); have n8_ := Aside0.mk (below_step (by repeat (first | (with_reducible first | exact HB.out | apply below_alloc | apply pw_below_drewN | apply below_drew1 | refine below_set ?_ (Aside0.out (by assumption))) | exact HB.out)) hb); clear HO_117000 HO_117001 BK101 BK102 BK103 BK113 BK116 BK132 HB; have HO_117000 := n0_; have HO_117001 := n1_; have BK101 := n2_; have BK102 := n3_; have BK103 := n4_; have BK113 := n5_; have BK116 := n6_; have BK132 := n7_; have HB := n8_; clear n0_ n1_ n2_ n3_ n4_ n5_ n6_ n7_ n8_; (try clear hb); (try clear hb2); (try clear hk); (try clear hi); have hnb128 := NB116_101.out; have hnc128 := NB101_116.out; have hnb129 := NB116_102.out; have hnc129 := NB102_116.out; have hnb130 := NB116_103.out; have hnc130 := NB103_116.out; obtain ⟨hcz131_0, hcz131_1, hcz131_2, hcz131_3⟩ := bc4 BK116.out; obtain ⟨hfz131_0, hfz131_1, hfz131_2, hfz131_3⟩ := bz4 BK116.out; obtain ⟨hcz132_0, hcz132_1, hcz132_2, hcz132_3, hcz132_4⟩ := bc5 BK132.out; obtain ⟨hfz132_0, hfz132_1, hfz132_2, hfz132_3, hfz132_4⟩ := bz5 BK132.out) | ((with_reducible refine gate_builtin (b := .append) (xs := #[.tmp 96, .tmp 98]) rfl ?_); at_builtin; refine Kd.R_append k84 (w0 := w) w.heap.size rfl (.tmp 96) (.tmp 98) 40 84 (.agg #[(.int .i64 0), (.int .i64 0), (.int .i64 0), (.int .i64 0), (.int .i64 0)]) 40 rfl Try.underlying40 info84 rfl (by decide) (by omega) u117001 x117001_3 (⟨(rd_T84 l1_0 x80_3).f0, (rd_T84 l1_0 x80_3).f1, (rd_T84 l1_0 x80_3).f2, (rd_T84 l1_0 x80_3).f3, (rd_T84 l1_0 x80_3).f4⟩ : S84) [.int .i64 ((rd_T84 l1_0 x80_3).f0), .int .i64 ((rd_T84 l1_0 x80_3).f1), .int .i64 ((rd_T84 l1_0 x80_3).f2), .int .i64 ((rd_T84 l1_0 x80_3).f3), .int .i64 ((rd_T84 l1_0 x80_3).f4)] (fun k_ => k_ ≠ gb132) (fun _ => False) rfl rfl ?aP (fun _ hk => hk.elim) ?aF ?aO ?aB ?aS ?aL ?_; (case aP => exact k84_mkM _ _ _ (⟨(rd_T84 l1_0 x80_3).f0, (rd_T84 l1_0 x80_3).f1, (rd_T84 l1_0 x80_3).f2, (rd_T84 l1_0 x80_3).f3, (rd_T84 l1_0 x80_3).f4⟩ : S84)); (case aB => exact (by repeat (first | (with_reducible first | exact HB.out | apply below_alloc | apply pw_below_drewN | apply below_drew1 | refine below_set ?_ (Aside0.out (by assumption))) | exact HB.out))); (case aF => exact (fun k_ hk => Kd.freshB (g := gb132) (o := .cells #[.int .i64 ((rd_T84 l1_0 x80_3).f0), .int .i64 ((rd_T84 l1_0 x80_3).f1), .int .i64 ((rd_T84 l1_0 x80_3).f2), .int .i64 ((rd_T84 l1_0 x80_3).f3), .int .i64 ((rd_T84 l1_0 x80_3).f4)] 84 (0, 0)) (by (repeat refine bk ?_); exact BK132.out) k_ hk)); (case aO => exact (by (with_reducible repeat (first | apply Kd.R_alloc | apply Kd.R_drewN | apply Kd.R_drew)); exact Kd.R_mono HO_117001.out (fun _ hk => hk.2))); (case aS => exact (below_size (by repeat (first | (with_reducible first | exact HB.out | apply below_alloc | apply pw_below_drewN | apply below_drew1 | refine below_set ?_ (Aside0.out (by assumption))) | exact HB.out)))); (case aL => have := LMc111.out; omega); intro v136 w133 ho hb hg hat; rw [← Ny135.out] at ho; have n0_ := Aside0.mk (Kd.S_over' (by (with_reducible repeat (first | apply Kd.S_alloc | apply Kd.S_drewN | apply Kd.S_drew)); exact HO_117000.out) (Kd.R_typed (by (with_reducible repeat (first | apply Kd.R_alloc | apply Kd.R_drewN | apply Kd.R_drew)); exact HO_117001.out)) (by decide) hg); have n1_ := Aside0.mk (bg BK101.out hg (Kd.R_ne HO_117001.out BK101.out (by decide))); have n2_ := Aside0.mk (bg BK102.out hg (Kd.R_ne HO_117001.out BK102.out (by decide))); have n3_ := Aside0.mk (bg BK103.out hg (Kd.R_ne HO_117001.out BK103.out (by decide))); have n4_ := Aside0.mk (bg BK113.out hg (Kd.R_ne HO_117001.out BK113.out (by decide))); have n5_ := Aside0.mk (bg BK116.out hg (Kd.R_ne HO_117001.out BK116.out (by decide))); have n6_ := Aside0.mk (bg BK132.out hg (Kd.R_away HO_117001.out (fun _ hk => hk.2))); have n7_ := Aside0.mk (hb); have n8_ := Aside0.mk (ho); clear HO_117000 BK101 BK102 BK103 BK113 BK116 BK132 HB HO_117001; have HO_117000 := n0_; have BK101 := n1_; have BK102 := n2_; have BK103 := n3_; have BK113 := n4_; have BK116 := n5_; have BK132 := n6_; have HB := n7_; have HO137 := n8_; clear n0_ n1_ n2_ n3_ n4_ n5_ n6_ n7_ n8_; clear ho hb hg hat; obtain ⟨Ao134, co134, eo134⟩ := Kd.R_slice HO137.out; subst eo134; obtain ⟨hcz135_0, hcz135_1, hcz135_2, hcz135_3⟩ := bc4 BK116.out; obtain ⟨hfz135_0, hfz135_1, hfz135_2, hfz135_3⟩ := bz4 BK116.out))
               go_roundg k3
               case measure => have := HJ4.out; have := HK2.out; have := HK3.out; omega
               case rel => exact ⟨(wrap64 (x80_3 + 1)), (y135), (.slice Ao134 y135.length co134), (by first | rfl | (simp; done) | (simp [*]; done)), H', ⟨by have := HJ4.out; have := HK2.out; have := HK3.out; omega⟩, ⟨by (with_reducible repeat (first | apply Kd.S_alloc | apply Kd.S_drewN | apply Kd.S_drew)); exact Kd.S_mono (Kd.S_far (p := ⟨gb116, 1, none⟩) (Kd.S_types HO_117000.out BK116.out (by decide)) (fun _ hk => hk.2) (.slice Ao134 y135.length co134)) (fun _ hk => trivial)⟩, ⟨by (with_reducible repeat (first | apply Kd.R_alloc | apply Kd.R_drewN | apply Kd.R_drew)); exact Kd.R_mono (Kd.R_far (p := ⟨gb116, 1, none⟩) (Kd.R_types HO137.out BK116.out (by decide)) (fun _ hk => hk.2) (.slice Ao134 y135.length co134)) (fun _ hk => trivial)⟩, ⟨by (repeat refine bk ?_); refine blk_far ?_ NB101_116.out _; (repeat refine bk ?_); exact BK101.out⟩, ⟨by (repeat refine bk ?_); refine blk_far ?_ NB102_116.out _; (repeat refine bk ?_); exact BK102.out⟩, ⟨by (repeat refine bk ?_); refine blk_far ?_ NB103_116.out _; (repeat refine bk ?_); exact BK103.out⟩, ⟨by (repeat refine bk ?_); refine blk_far ?_ NB113_116.out _; (repeat refine bk ?_); exact BK113.out⟩, ⟨by (repeat refine bk ?_); refine blk_put (cs := #[u117000, u117001, .slice none 0 0, .slice none 0 0]) ?_ 1 _ rfl; (repeat refine bk ?_); exact BK116.out⟩, ⟨by repeat (first | (with_reducible first | exact HB.out | apply below_alloc | apply pw_below_drewN | apply below_drew1 | refine below_set ?_ (Aside0.out (by assumption))) | exact HB.out)⟩⟩
              ·
               rw [if_neg c111] at H
               exact absurd H (by simp)
             ·
              replace c110 := Bool.eq_false_iff.mpr c110
              subst c110
              have H1 : (band_Problem.l2 k3 l1_0 (l1_0.length : Int) (wrap64 (x80_3 + 1)) l1_0 l1_1 l1_2 t104 t105 t106 t107 t108 t109 t110 t111 x117000_2 x117001_3) = some (r1, r2, r3, r4, r5) := by rw [if_neg (show ¬ (false = true) by decide)] at H; exact H
              clear H
              have H := H1
              clear H1
              have H' := Aside0.mk H
              clear H
              have p131 : 0 ≤ (x80_3 : Int) := of_decide_eq_true (by first | (with_reducible assumption) | assumption)
              have q131 : x80_3 < (l1_0.length : Int) := of_decide_eq_true (by first | (with_reducible assumption) | assumption)
              obtain ⟨ad131, e131, hx131_0, hx131_1, hx131_2, hx131_3, hx131_4⟩ := at_T84 HR1_0.out x80_3 p131 q131
              cases e131
              replace hx131_0 := (HB.out.cell (World.block_lt_of_cell? w _ hx131_0)).trans hx131_0
              replace hx131_1 := (HB.out.cell (World.block_lt_of_cell? w _ hx131_1)).trans hx131_1
              replace hx131_2 := (HB.out.cell (World.block_lt_of_cell? w _ hx131_2)).trans hx131_2
              replace hx131_3 := (HB.out.cell (World.block_lt_of_cell? w _ hx131_3)).trans hx131_3
              replace hx131_4 := (HB.out.cell (World.block_lt_of_cell? w _ hx131_4)).trans hx131_4
              replace p131 := eq_true p131
              replace q131 := eq_true q131
              go_wp2_with (first | ((with_reducible refine gate_dst (N := 19) rfl ?_); refine box_event ?hg (N := 19) ?hd (cs := #[.int .i64 0, .int .i64 0, .int .i64 0, .int .i64 0, .int .i64 0]) (t := 84) ?hr ?_; (case hd => rfl); (case hg => rfl); (case hr => first | (go_simp; done) | (go_simp; rfl)); intro gb132 hg w136 hbox hb; have n0_ := Aside0.mk (Kd.S_below (by (with_reducible repeat (first | apply Kd.S_alloc | apply Kd.S_drewN | apply Kd.S_drew)); exact HO_117000.out) hb); have n1_ := Aside0.mk (Kd.R_below (Kd.R_elderB (by (with_reducible repeat (first | apply Kd.R_alloc | apply Kd.R_drewN | apply Kd.R_drew)); exact HO_117001.out) gb132 (Nat.le_of_eq hg.symm)) hb); have n2_ := Aside0.mk (bb BK101.out hb); have n3_ := Aside0.mk (bb BK102.out hb); have n4_ := Aside0.mk (bb BK103.out hb); have n5_ := Aside0.mk (bb BK113.out hb); have n6_ := Aside0.mk (bb BK116.out hb); have n7_ := Aside0.mk (below_step (by repeat (first | (with_reducible first | exact HB.out | apply below_alloc | apply pw_below_drewN | apply below_drew1 | refine below_set ?_ (Aside0.out (by assumption))) | exact HB.out)) hb); have n8_ := Aside0.mk (hbox); have n9_ := Aside0.mk ((by rw [hg]; exact (below_size (by repeat (first | (with_reducible first | exact HB.out | apply below_alloc | apply pw_below_drewN | apply below_drew1 | refine below_set ?_ (Aside0.out (by assumption))) | exact HB.out))) : w.heap.size ≤ gb132)); have n10_ := Aside0.mk ((by rw [hg]; exact (below_size (by repeat (first | (with_reducible first | exact HB.out | apply below_alloc | apply pw_below_drewN | apply below_drew1 | refine below_set ?_ (Aside0.out (by assumption))) | exact HB.out))) : w.heap.size ≤ gb132)); have n11_ := Aside0.mk ((by rw [hg]; exact Nat.ne_of_lt (bl BK101.out) : gb101 ≠ gb132)); have n12_ := Aside0.mk ((by rw [hg]; exact Nat.ne_of_gt (bl BK101.out) : gb132 ≠ gb101)); have n13_ := Aside0.mk ((by rw [hg]; exact Nat.ne_of_lt (bl BK102.out) : gb102 ≠ gb132)); have n14_ := Aside0.mk ((by rw [hg]; exact Nat.ne_of_gt (bl BK102.out) : gb132 ≠ gb102)); have n15_ := Aside0.mk ((by rw [hg]; exact Nat.ne_of_lt (bl BK103.out) : gb103 ≠ gb132)); have n16_ := Aside0.mk ((by rw [hg]; exact Nat.ne_of_gt (bl BK103.out) : gb132 ≠ gb103)); have n17_ := Aside0.mk ((by rw [hg]; exact Nat.ne_of_lt (bl BK113.out) : gb113 ≠ gb132)); have n18_ := Aside0.mk ((by rw [hg]; exact Nat.ne_of_gt (bl BK113.out) : gb132 ≠ gb113)); have n19_ := Aside0.mk ((by rw [hg]; exact Nat.ne_of_lt (bl BK116.out) : gb116 ≠ gb132)); have n20_ := Aside0.mk ((by rw [hg]; exact Nat.ne_of_gt (bl BK116.out) : gb132 ≠ gb116)); clear HO_117000 HO_117001 BK101 BK102 BK103 BK113 BK116 HB; have HO_117000 := n0_; have HO_117001 := n1_; have BK101 := n2_; have BK102 := n3_; have BK103 := n4_; have BK113 := n5_; have BK116 := n6_; have HB := n7_; have BK132 := n8_; have GW132 := n9_; have GE132 := n10_; have NB101_132 := n11_; have NB132_101 := n12_; have NB102_132 := n13_; have NB132_102 := n14_; have NB103_132 := n15_; have NB132_103 := n16_; have NB113_132 := n17_; have NB132_113 := n18_; have NB116_132 := n19_; have NB132_116 := n20_; clear n0_ n1_ n2_ n3_ n4_ n5_ n6_ n7_ n8_ n9_ n10_ n11_ n12_ n13_ n14_ n15_ n16_ n17_ n18_ n19_ n20_; clear hb hbox hg; have hnb137 := NB132_101.out; have hnc137 := NB101_132.out; have hnb138 := NB132_102.out; have hnc138 := NB102_132.out; have hnb139 := NB132_103.out; have hnc139 := NB103_132.out; have hnb140 := NB132_113.out; have hnc140 := NB113_132.out; have hnb141 := NB132_116.out; have hnc141 := NB116_132.out; obtain ⟨hcz142_0, hcz142_1, hcz142_2, hcz142_3, hcz142_4⟩ := bc5 BK132.out; obtain ⟨hfz142_0, hfz142_1, hfz142_2, hfz142_3, hfz142_4⟩ := bz5 BK132.out; have hnb143 := NB113_101.out; have hnc143 := NB101_113.out; have hnb144 := NB113_102.out; have hnc144 := NB102_113.out; have hnb145 := NB113_103.out; have hnc145 := NB103_113.out; have hnb146 := NB113_116.out; have hnc146 := NB116_113.out; obtain ⟨hcz147_0, hcz147_1, hcz147_2, hcz147_3, hcz147_4, hcz147_5, hcz147_6, hcz147_7⟩ := bc8 BK113.out; obtain ⟨hfz147_0, hfz147_1, hfz147_2, hfz147_3, hfz147_4, hfz147_5, hfz147_6, hfz147_7⟩ := bz8 BK113.out) | ((with_reducible refine gate_callee (f := 43) rfl ?_); refine goesL_ (some 87) rfl rfl Try.func43 (by kernel_rfl) rfl #[.agg #[.int .u64 t104, .int .u64 t105, .int .u64 t106, .int .u64 t107, .int .u64 t108, .int .u64 t109, .int .u64 t110, .int .u64 t111], .int .i64 ((rd_T84 l1_0 x80_3).f0)] rfl (by (try simp only [List.map_toArray, List.map_cons, List.map_nil]); first | done | rfl | (simp only [List.length_drop, List.length_take]; rfl)) ?_; (with_reducible refine (bitset_Set_Has.calls t104 t105 t106 t107 t108 t109 t110 t111 ((rd_T84 l1_0 x80_3).f0) true _ A107.out).mono ?_); rintro e w148 ⟨rfl, hb⟩; refine ⟨_, rfl, ?_⟩; have n0_ := Aside0.mk (Kd.S_below (by (with_reducible repeat (first | apply Kd.S_alloc | apply Kd.S_drewN | apply Kd.S_drew)); exact (Kd.S_mono (Kd.S_far (p := ⟨gb132, 4, none⟩) (Kd.S_far (p := ⟨gb132, 3, none⟩) (Kd.S_far (p := ⟨gb132, 2, none⟩) (Kd.S_far (p := ⟨gb132, 1, none⟩) (Kd.S_far (p := ⟨gb132, 0, none⟩) (Kd.S_types HO_117000.out BK132.out (by decide)) (fun _ hk => hk.2) (.int .i64 ((rd_T84 l1_0 x80_3).f0))) (fun _ hk => hk.2) (.int .i64 ((rd_T84 l1_0 x80_3).f1))) (fun _ hk => hk.2) (.int .i64 ((rd_T84 l1_0 x80_3).f2))) (fun _ hk => hk.2) (.int .i64 ((rd_T84 l1_0 x80_3).f3))) (fun _ hk => hk.2) (.int .i64 ((rd_T84 l1_0 x80_3).f4))) (fun _ h_ => h_.1))) hb); have n1_ := Aside0.mk (Kd.R_below (by (with_reducible repeat (first | apply Kd.R_alloc | apply Kd.R_drewN | apply Kd.R_drew)); exact (Kd.R_mono (Kd.R_far (p := ⟨gb132, 4, none⟩) (Kd.R_far (p := ⟨gb132, 3, none⟩) (Kd.R_far (p := ⟨gb132, 2, none⟩) (Kd.R_far (p := ⟨gb132, 1, none⟩) (Kd.R_far (p := ⟨gb132, 0, none⟩) (Kd.R_mono HO_117001.out (fun k_ hk => (⟨hk, hk.2⟩ : _ ∧ k_ ≠ gb132))) (fun _ hk => hk.2) (.int .i64 ((rd_T84 l1_0 x80_3).f0))) (fun _ hk => hk.2) (.int .i64 ((rd_T84 l1_0 x80_3).f1))) (fun _ hk => hk.2) (.int .i64 ((rd_T84 l1_0 x80_3).f2))) (fun _ hk => hk.2) (.int .i64 ((rd_T84 l1_0 x80_3).f3))) (fun _ hk => hk.2) (.int .i64 ((rd_T84 l1_0 x80_3).f4))) (fun _ h_ => h_.1))) hb); have n2_ := Aside0.mk (blk_below (g := gb101) (o := .cells #[.slice (some ad131) l1_0.length c1_0, .slice A1_1 l1_1.length c1_1, .slice A1_2 l1_2.length c1_2] 44 (0, 0)) (by (repeat refine bk ?_); refine blk_far ?_ NB101_132.out _; (repeat refine bk ?_); refine blk_far ?_ NB101_132.out _; (repeat refine bk ?_); refine blk_far ?_ NB101_132.out _; (repeat refine bk ?_); refine blk_far ?_ NB101_132.out _; (repeat refine bk ?_); refine blk_far ?_ NB101_132.out _; (repeat refine bk ?_); exact BK101.out) hb); have n3_ := Aside0.mk (blk_below (g := gb102) (o := .cells #[.int .i64 a2_0] 34 (0, 0)) (by (repeat refine bk ?_); refine blk_far ?_ NB102_132.out _; (repeat refine bk ?_); refine blk_far ?_ NB102_132.out _; (repeat refine bk ?_); refine blk_far ?_ NB102_132.out _; (repeat refine bk ?_); refine blk_far ?_ NB102_132.out _; (repeat refine bk ?_); refine blk_far ?_ NB102_132.out _; (repeat refine bk ?_); exact BK102.out) hb); have n4_ := Aside0.mk (blk_below (g := gb103) (o := .cells #[.slice none 0 0, .slice none 0 0, .slice none 0 0, .slice none 0 0] 49 (0, 0)) (by (repeat refine bk ?_); refine blk_far ?_ NB103_132.out _; (repeat refine bk ?_); refine blk_far ?_ NB103_132.out _; (repeat refine bk ?_); refine blk_far ?_ NB103_132.out _; (repeat refine bk ?_); refine blk_far ?_ NB103_132.out _; (repeat refine bk ?_); refine blk_far ?_ NB103_132.out _; (repeat refine bk ?_); exact BK103.out) hb); have n5_ := Aside0.mk (blk_below (g := gb113) (o := .cells #[.int .u64 t104, .int .u64 t105, .int .u64 t106, .int .u64 t107, .int .u64 t108, .int .u64 t109, .int .u64 t110, .int .u64 t111] 92 (0, 0)) (by (repeat refine bk ?_); refine blk_far ?_ NB113_132.out _; (repeat refine bk ?_); refine blk_far ?_ NB113_132.out _; (repeat refine bk ?_); refine blk_far ?_ NB113_132.out _; (repeat refine bk ?_); refine blk_far ?_ NB113_132.out _; (repeat refine bk ?_); refine blk_far ?_ NB113_132.out _; (repeat refine bk ?_); exact BK113.out) hb); have n6_ := Aside0.mk (blk_below (g := gb116) (o := .cells #[u117000, u117001, .slice none 0 0, .slice none 0 0] 49 (0, 0)) (by (repeat refine bk ?_); refine blk_far ?_ NB116_132.out _; (repeat refine bk ?_); refine blk_far ?_ NB116_132.out _; (repeat refine bk ?_); refine blk_far ?_ NB116_132.out _; (repeat refine bk ?_); refine blk_far ?_ NB116_132.out _; (repeat refine bk ?_); refine blk_far ?_ NB116_132.out _; (repeat refine bk ?_); exact BK116.out) hb); have n7_ := Aside0.mk (blk_below (g := gb132) (o := .cells #[.int .i64 ((rd_T84 l1_0 x80_3).f0), .int .i64 ((rd_T84 l1_0 x80_3).f1), .int .i64 ((rd_T84 l1_0 x80_3).f2), .int .i64 ((rd_T84 l1_0 x80_3).f3), .int .i64 ((rd_T84 l1_0 x80_3).f4)] 84 (0, 0)) (by (repeat refine bk ?_); refine blk_put (cs := #[.int .i64 ((rd_T84 l1_0 x80_3).f0), .int .i64 ((rd_T84 l1_0 x80_3).f1), .int .i64 ((rd_T84 l1_0 x80_3).f2), .int .i64 ((rd_T84 l1_0 x80_3).f3), .int .i64 0]) ?_ 4 _ rfl; (repeat refine bk ?_); refine blk_put (cs := #[.int .i64 ((rd_T84 l1_0 x80_3).f0), .int .i64 ((rd_T84 l1_0 x80_3).f1), .int .i64 ((rd_T84 l1_0 x80_3).f2), .int .i64 0, .int .i64 0]) ?_ 3 _ rfl; (repeat refine bk ?_); refine blk_put (cs := #[.int .i64 ((rd_T84 l1_0 x80_3).f0), .int .i64 ((rd_T84 l1_0 x80_3).f1), .int .i64 0, .int .i64 0, .int .i64 0]) ?_ 2 _ rfl; (repeat refine bk ?_); refine blk_put (cs := #[.int .i64 ((rd_T84 l1_0 x80_3).f0), .int .i64 0, .int .i64 0, .int .i64 0, .int .i64 0]) ?_ 1 _ rfl; (repeat refine bk ?_); refine blk_put (cs := #[.int .i64 0, .int .i64 0, .int .i64 0, .int .i64 0, .int .i64 0]) ?_ 0 _ rfl; (repeat refine bk ?_); exact BK132.out) hb); have n8_ := Aside0.mk (below_step (by repeat (first | (with_reducible first | exact HB.out | apply below_alloc | apply pw_below_drewN | apply below_drew1 | refine below_set ?_ (Aside0.out (by assumption))) | exact HB.out)) hb); clear HO_117000 HO_117001 BK101 BK102 BK103 BK113 BK116 BK132 HB; have HO_117000 := n0_; have HO_117001 := n1_; have BK101 := n2_; have BK102 := n3_; have BK103 := n4_; have BK113 := n5_; have BK116 := n6_; have BK132 := n7_; have HB := n8_; clear n0_ n1_ n2_ n3_ n4_ n5_ n6_ n7_ n8_; (try clear hb); (try clear hb2); (try clear hk); (try clear hi); obtain ⟨hcz149_0, hcz149_1, hcz149_2, hcz149_3, hcz149_4, hcz149_5, hcz149_6, hcz149_7⟩ := bc8 BK113.out; obtain ⟨hfz149_0, hfz149_1, hfz149_2, hfz149_3, hfz149_4, hfz149_5, hfz149_6, hfz149_7⟩ := bz8 BK113.out; obtain ⟨hcz150_0, hcz150_1, hcz150_2, hcz150_3, hcz150_4⟩ := bc5 BK132.out; obtain ⟨hfz150_0, hfz150_1, hfz150_2, hfz150_3, hfz150_4⟩ := bz5 BK132.out) | (go_at_call 43; (with_reducible refine (bitset_Set_Has.calls t104 t105 t106 t107 t108 t109 t110 t111 ((rd_T84 l1_0 x80_3).f1) false _ A109.out).mono ?_); rintro e w151 ⟨rfl, hb⟩; have n0_ := Aside0.mk (Kd.S_below (by (with_reducible repeat (first | apply Kd.S_alloc | apply Kd.S_drewN | apply Kd.S_drew)); exact HO_117000.out) hb); have n1_ := Aside0.mk (Kd.R_below (by (with_reducible repeat (first | apply Kd.R_alloc | apply Kd.R_drewN | apply Kd.R_drew)); exact HO_117001.out) hb); have n2_ := Aside0.mk (bb BK101.out hb); have n3_ := Aside0.mk (bb BK102.out hb); have n4_ := Aside0.mk (bb BK103.out hb); have n5_ := Aside0.mk (bb BK113.out hb); have n6_ := Aside0.mk (bb BK116.out hb); have n7_ := Aside0.mk (bb BK132.out hb); have n8_ := Aside0.mk (below_step (by repeat (first | (with_reducible first | exact HB.out | apply below_alloc | apply pw_below_drewN | apply below_drew1 | refine below_set ?_ (Aside0.out (by assumption))) | exact HB.out)) hb); clear HO_117000 HO_117001 BK101 BK102 BK103 BK113 BK116 BK132 HB; have HO_117000 := n0_; have HO_117001 := n1_; have BK101 := n2_; have BK102 := n3_; have BK103 := n4_; have BK113 := n5_; have BK116 := n6_; have BK132 := n7_; have HB := n8_; clear n0_ n1_ n2_ n3_ n4_ n5_ n6_ n7_ n8_; (try clear hb); (try clear hb2); (try clear hk); (try clear hi)))
              go_roundg k3
              case measure => have := HJ4.out; have := HK2.out; have := HK3.out; omega
              case rel => exact ⟨(wrap64 (x80_3 + 1)), (x117001_3), (u117001), (by first | rfl | (simp; done) | (simp [*]; done)), H', ⟨by have := HJ4.out; have := HK2.out; have := HK3.out; omega⟩, ⟨by (with_reducible repeat (first | apply Kd.S_alloc | apply Kd.S_drewN | apply Kd.S_drew)); exact HO_117000.out⟩, ⟨by (with_reducible repeat (first | apply Kd.R_alloc | apply Kd.R_drewN | apply Kd.R_drew)); exact Kd.R_mono HO_117001.out (fun _ hk => trivial)⟩, ⟨by (repeat refine bk ?_); exact BK101.out⟩, ⟨by (repeat refine bk ?_); exact BK102.out⟩, ⟨by (repeat refine bk ?_); exact BK103.out⟩, ⟨by (repeat refine bk ?_); exact BK113.out⟩, ⟨by (repeat refine bk ?_); exact BK116.out⟩, ⟨by repeat (first | (with_reducible first | exact HB.out | apply below_alloc | apply pw_below_drewN | apply below_drew1 | refine below_set ?_ (Aside0.out (by assumption))) | exact HB.out)⟩⟩
            ·
             replace c108 := Bool.eq_false_iff.mpr c108
             subst c108
             have H1 : (band_Problem.l2 k3 l1_0 (l1_0.length : Int) (wrap64 (x80_3 + 1)) l1_0 l1_1 l1_2 t104 t105 t106 t107 t108 t109 t110 t111 x117000_2 x117001_3) = some (r1, r2, r3, r4, r5) := by rw [if_neg (show ¬ (false = true) by decide)] at H; exact H
             clear H
             have H := H1
             clear H1
             have H' := Aside0.mk H
             clear H
             have p131 : 0 ≤ (x80_3 : Int) := of_decide_eq_true (by first | (with_reducible assumption) | assumption)
             have q131 : x80_3 < (l1_0.length : Int) := of_decide_eq_true (by first | (with_reducible assumption) | assumption)
             obtain ⟨ad131, e131, hx131_0, hx131_1, hx131_2, hx131_3, hx131_4⟩ := at_T84 HR1_0.out x80_3 p131 q131
             cases e131
             replace hx131_0 := (HB.out.cell (World.block_lt_of_cell? w _ hx131_0)).trans hx131_0
             replace hx131_1 := (HB.out.cell (World.block_lt_of_cell? w _ hx131_1)).trans hx131_1
             replace hx131_2 := (HB.out.cell (World.block_lt_of_cell? w _ hx131_2)).trans hx131_2
             replace hx131_3 := (HB.out.cell (World.block_lt_of_cell? w _ hx131_3)).trans hx131_3
             replace hx131_4 := (HB.out.cell (World.block_lt_of_cell? w _ hx131_4)).trans hx131_4
             replace p131 := eq_true p131
             replace q131 := eq_true q131
             go_wp2_with (first | ((with_reducible refine gate_dst (N := 19) rfl ?_); refine box_event ?hg (N := 19) ?hd (cs := #[.int .i64 0, .int .i64 0, .int .i64 0, .int .i64 0, .int .i64 0]) (t := 84) ?hr ?_; (case hd => rfl); (case hg => rfl); (case hr => first | (go_simp; done) | (go_simp; rfl)); intro gb132 hg w152 hbox hb; have n0_ := Aside0.mk (Kd.S_below (by (with_reducible repeat (first | apply Kd.S_alloc | apply Kd.S_drewN | apply Kd.S_drew)); exact HO_117000.out) hb); have n1_ := Aside0.mk (Kd.R_below (Kd.R_elderB (by (with_reducible repeat (first | apply Kd.R_alloc | apply Kd.R_drewN | apply Kd.R_drew)); exact HO_117001.out) gb132 (Nat.le_of_eq hg.symm)) hb); have n2_ := Aside0.mk (bb BK101.out hb); have n3_ := Aside0.mk (bb BK102.out hb); have n4_ := Aside0.mk (bb BK103.out hb); have n5_ := Aside0.mk (bb BK113.out hb); have n6_ := Aside0.mk (bb BK116.out hb); have n7_ := Aside0.mk (below_step (by repeat (first | (with_reducible first | exact HB.out | apply below_alloc | apply pw_below_drewN | apply below_drew1 | refine below_set ?_ (Aside0.out (by assumption))) | exact HB.out)) hb); have n8_ := Aside0.mk (hbox); have n9_ := Aside0.mk ((by rw [hg]; exact (below_size (by repeat (first | (with_reducible first | exact HB.out | apply below_alloc | apply pw_below_drewN | apply below_drew1 | refine below_set ?_ (Aside0.out (by assumption))) | exact HB.out))) : w.heap.size ≤ gb132)); have n10_ := Aside0.mk ((by rw [hg]; exact (below_size (by repeat (first | (with_reducible first | exact HB.out | apply below_alloc | apply pw_below_drewN | apply below_drew1 | refine below_set ?_ (Aside0.out (by assumption))) | exact HB.out))) : w.heap.size ≤ gb132)); have n11_ := Aside0.mk ((by rw [hg]; exact Nat.ne_of_lt (bl BK101.out) : gb101 ≠ gb132)); have n12_ := Aside0.mk ((by rw [hg]; exact Nat.ne_of_gt (bl BK101.out) : gb132 ≠ gb101)); have n13_ := Aside0.mk ((by rw [hg]; exact Nat.ne_of_lt (bl BK102.out) : gb102 ≠ gb132)); have n14_ := Aside0.mk ((by rw [hg]; exact Nat.ne_of_gt (bl BK102.out) : gb132 ≠ gb102)); have n15_ := Aside0.mk ((by rw [hg]; exact Nat.ne_of_lt (bl BK103.out) : gb103 ≠ gb132)); have n16_ := Aside0.mk ((by rw [hg]; exact Nat.ne_of_gt (bl BK103.out) : gb132 ≠ gb103)); have n17_ := Aside0.mk ((by rw [hg]; exact Nat.ne_of_lt (bl BK113.out) : gb113 ≠ gb132)); have n18_ := Aside0.mk ((by rw [hg]; exact Nat.ne_of_gt (bl BK113.out) : gb132 ≠ gb113)); have n19_ := Aside0.mk ((by rw [hg]; exact Nat.ne_of_lt (bl BK116.out) : gb116 ≠ gb132)); have n20_ := Aside0.mk ((by rw [hg]; exact Nat.ne_of_gt (bl BK116.out) : gb132 ≠ gb116)); clear HO_117000 HO_117001 BK101 BK102 BK103 BK113 BK116 HB; have HO_117000 := n0_; have HO_117001 := n1_; have BK101 := n2_; have BK102 := n3_; have BK103 := n4_; have BK113 := n5_; have BK116 := n6_; have HB := n7_; have BK132 := n8_; have GW132 := n9_; have GE132 := n10_; have NB101_132 := n11_; have NB132_101 := n12_; have NB102_132 := n13_; have NB132_102 := n14_; have NB103_132 := n15_; have NB132_103 := n16_; have NB113_132 := n17_; have NB132_113 := n18_; have NB116_132 := n19_; have NB132_116 := n20_; clear n0_ n1_ n2_ n3_ n4_ n5_ n6_ n7_ n8_ n9_ n10_ n11_ n12_ n13_ n14_ n15_ n16_ n17_ n18_ n19_ n20_; clear hb hbox hg; have hnb153 := NB132_101.out; have hnc153 := NB101_132.out; have hnb154 := NB132_102.out; have hnc154 := NB102_132.out; have hnb155 := NB132_103.out; have hnc155 := NB103_132.out; have hnb156 := NB132_113.out; have hnc156 := NB113_132.out; have hnb157 := NB132_116.out; have hnc157 := NB116_132.out; obtain ⟨hcz158_0, hcz158_1, hcz158_2, hcz158_3, hcz158_4⟩ := bc5 BK132.out; obtain ⟨hfz158_0, hfz158_1, hfz158_2, hfz158_3, hfz158_4⟩ := bz5 BK132.out; have hnb159 := NB113_101.out; have hnc159 := NB101_113.out; have hnb160 := NB113_102.out; have hnc160 := NB102_113.out; have hnb161 := NB113_103.out; have hnc161 := NB103_113.out; have hnb162 := NB113_116.out; have hnc162 := NB116_113.out; obtain ⟨hcz163_0, hcz163_1, hcz163_2, hcz163_3, hcz163_4, hcz163_5, hcz163_6, hcz163_7⟩ := bc8 BK113.out; obtain ⟨hfz163_0, hfz163_1, hfz163_2, hfz163_3, hfz163_4, hfz163_5, hfz163_6, hfz163_7⟩ := bz8 BK113.out) | ((with_reducible refine gate_callee (f := 43) rfl ?_); refine goesL_ (some 87) rfl rfl Try.func43 (by kernel_rfl) rfl #[.agg #[.int .u64 t104, .int .u64 t105, .int .u64 t106, .int .u64 t107, .int .u64 t108, .int .u64 t109, .int .u64 t110, .int .u64 t111], .int .i64 ((rd_T84 l1_0 x80_3).f0)] rfl (by (try simp only [List.map_toArray, List.map_cons, List.map_nil]); first | done | rfl | (simp only [List.length_drop, List.length_take]; rfl)) ?_; (with_reducible refine (bitset_Set_Has.calls t104 t105 t106 t107 t108 t109 t110 t111 ((rd_T84 l1_0 x80_3).f0) false _ A107.out).mono ?_); rintro e w164 ⟨rfl, hb⟩; refine ⟨_, rfl, ?_⟩; have n0_ := Aside0.mk (Kd.S_below (by (with_reducible repeat (first | apply Kd.S_alloc | apply Kd.S_drewN | apply Kd.S_drew)); exact (Kd.S_mono (Kd.S_far (p := ⟨gb132, 4, none⟩) (Kd.S_far (p := ⟨gb132, 3, none⟩) (Kd.S_far (p := ⟨gb132, 2, none⟩) (Kd.S_far (p := ⟨gb132, 1, none⟩) (Kd.S_far (p := ⟨gb132, 0, none⟩) (Kd.S_types HO_117000.out BK132.out (by decide)) (fun _ hk => hk.2) (.int .i64 ((rd_T84 l1_0 x80_3).f0))) (fun _ hk => hk.2) (.int .i64 ((rd_T84 l1_0 x80_3).f1))) (fun _ hk => hk.2) (.int .i64 ((rd_T84 l1_0 x80_3).f2))) (fun _ hk => hk.2) (.int .i64 ((rd_T84 l1_0 x80_3).f3))) (fun _ hk => hk.2) (.int .i64 ((rd_T84 l1_0 x80_3).f4))) (fun _ h_ => h_.1))) hb); have n1_ := Aside0.mk (Kd.R_below (by (with_reducible repeat (first | apply Kd.R_alloc | apply Kd.R_drewN | apply Kd.R_drew)); exact (Kd.R_mono (Kd.R_far (p := ⟨gb132, 4, none⟩) (Kd.R_far (p := ⟨gb132, 3, none⟩) (Kd.R_far (p := ⟨gb132, 2, none⟩) (Kd.R_far (p := ⟨gb132, 1, none⟩) (Kd.R_far (p := ⟨gb132, 0, none⟩) (Kd.R_mono HO_117001.out (fun k_ hk => (⟨hk, hk.2⟩ : _ ∧ k_ ≠ gb132))) (fun _ hk => hk.2) (.int .i64 ((rd_T84 l1_0 x80_3).f0))) (fun _ hk => hk.2) (.int .i64 ((rd_T84 l1_0 x80_3).f1))) (fun _ hk => hk.2) (.int .i64 ((rd_T84 l1_0 x80_3).f2))) (fun _ hk => hk.2) (.int .i64 ((rd_T84 l1_0 x80_3).f3))) (fun _ hk => hk.2) (.int .i64 ((rd_T84 l1_0 x80_3).f4))) (fun _ h_ => h_.1))) hb); have n2_ := Aside0.mk (blk_below (g := gb101) (o := .cells #[.slice (some ad131) l1_0.length c1_0, .slice A1_1 l1_1.length c1_1, .slice A1_2 l1_2.length c1_2] 44 (0, 0)) (by (repeat refine bk ?_); refine blk_far ?_ NB101_132.out _; (repeat refine bk ?_); refine blk_far ?_ NB101_132.out _; (repeat refine bk ?_); refine blk_far ?_ NB101_132.out _; (repeat refine bk ?_); refine blk_far ?_ NB101_132.out _; (repeat refine bk ?_); refine blk_far ?_ NB101_132.out _; (repeat refine bk ?_); exact BK101.out) hb); have n3_ := Aside0.mk (blk_below (g := gb102) (o := .cells #[.int .i64 a2_0] 34 (0, 0)) (by (repeat refine bk ?_); refine blk_far ?_ NB102_132.out _; (repeat refine bk ?_); refine blk_far ?_ NB102_132.out _; (repeat refine bk ?_); refine blk_far ?_ NB102_132.out _; (repeat refine bk ?_); refine blk_far ?_ NB102_132.out _; (repeat refine bk ?_); refine blk_far ?_ NB102_132.out _; (repeat refine bk ?_); exact BK102.out) hb); have n4_ := Aside0.mk (blk_below (g := gb103) (o := .cells #[.slice none 0 0, .slice none 0 0, .slice none 0 0, .slice none 0 0] 49 (0, 0)) (by (repeat refine bk ?_); refine blk_far ?_ NB103_132.out _; (repeat refine bk ?_); refine blk_far ?_ NB103_132.out _; (repeat refine bk ?_); refine blk_far ?_ NB103_132.out _; (repeat refine bk ?_); refine blk_far ?_ NB103_132.out _; (repeat refine bk ?_); refine blk_far ?_ NB103_132.out _; (repeat refine bk ?_); exact BK103.out) hb); have n5_ := Aside0.mk (blk_below (g := gb113) (o := .cells #[.int .u64 t104, .int .u64 t105, .int .u64 t106, .int .u64 t107, .int .u64 t108, .int .u64 t109, .int .u64 t110, .int .u64 t111] 92 (0, 0)) (by (repeat refine bk ?_); refine blk_far ?_ NB113_132.out _; (repeat refine bk ?_); refine blk_far ?_ NB113_132.out _; (repeat refine bk ?_); refine blk_far ?_ NB113_132.out _; (repeat refine bk ?_); refine blk_far ?_ NB113_132.out _; (repeat refine bk ?_); refine blk_far ?_ NB113_132.out _; (repeat refine bk ?_); exact BK113.out) hb); have n6_ := Aside0.mk (blk_below (g := gb116) (o := .cells #[u117000, u117001, .slice none 0 0, .slice none 0 0] 49 (0, 0)) (by (repeat refine bk ?_); refine blk_far ?_ NB116_132.out _; (repeat refine bk ?_); refine blk_far ?_ NB116_132.out _; (repeat refine bk ?_); refine blk_far ?_ NB116_132.out _; (repeat refine bk ?_); refine blk_far ?_ NB116_132.out _; (repeat refine bk ?_); refine blk_far ?_ NB116_132.out _; (repeat refine bk ?_); exact BK116.out) hb); have n7_ := Aside0.mk (blk_below (g := gb132) (o := .cells #[.int .i64 ((rd_T84 l1_0 x80_3).f0), .int .i64 ((rd_T84 l1_0 x80_3).f1), .int .i64 ((rd_T84 l1_0 x80_3).f2), .int .i64 ((rd_T84 l1_0 x80_3).f3), .int .i64 ((rd_T84 l1_0 x80_3).f4)] 84 (0, 0)) (by (repeat refine bk ?_); refine blk_put (cs := #[.int .i64 ((rd_T84 l1_0 x80_3).f0), .int .i64 ((rd_T84 l1_0 x80_3).f1), .int .i64 ((rd_T84 l1_0 x80_3).f2), .int .i64 ((rd_T84 l1_0 x80_3).f3), .int .i64 0]) ?_ 4 _ rfl; (repeat refine bk ?_); refine blk_put (cs := #[.int .i64 ((rd_T84 l1_0 x80_3).f0), .int .i64 ((rd_T84 l1_0 x80_3).f1), .int .i64 ((rd_T84 l1_0 x80_3).f2), .int .i64 0, .int .i64 0]) ?_ 3 _ rfl; (repeat refine bk ?_); refine blk_put (cs := #[.int .i64 ((rd_T84 l1_0 x80_3).f0), .int .i64 ((rd_T84 l1_0 x80_3).f1), .int .i64 0, .int .i64 0, .int .i64 0]) ?_ 2 _ rfl; (repeat refine bk ?_); refine blk_put (cs := #[.int .i64 ((rd_T84 l1_0 x80_3).f0), .int .i64 0, .int .i64 0, .int .i64 0, .int .i64 0]) ?_ 1 _ rfl; (repeat refine bk ?_); refine blk_put (cs := #[.int .i64 0, .int .i64 0, .int .i64 0, .int .i64 0, .int .i64 0]) ?_ 0 _ rfl; (repeat refine bk ?_); exact BK132.out) hb); have n8_ := Aside0.mk (below_step (by repeat (first | (with_reducible first | exact HB.out | apply below_alloc | apply pw_below_drewN | apply below_drew1 | refine below_set ?_ (Aside0.out (by assumption))) | exact HB.out)) hb); clear HO_117000 HO_117001 BK101 BK102 BK103 BK113 BK116 BK132 HB; have HO_117000 := n0_; have HO_117001 := n1_; have BK101 := n2_; have BK102 := n3_; have BK103 := n4_; have BK113 := n5_; have BK116 := n6_; have BK132 := n7_; have HB := n8_; clear n0_ n1_ n2_ n3_ n4_ n5_ n6_ n7_ n8_; (try clear hb); (try clear hb2); (try clear hk); (try clear hi)))
             go_roundg k3
             case measure => have := HJ4.out; have := HK2.out; have := HK3.out; omega
             case rel => exact ⟨(wrap64 (x80_3 + 1)), (x117001_3), (u117001), (by first | rfl | (simp; done) | (simp [*]; done)), H', ⟨by have := HJ4.out; have := HK2.out; have := HK3.out; omega⟩, ⟨by (with_reducible repeat (first | apply Kd.S_alloc | apply Kd.S_drewN | apply Kd.S_drew)); exact HO_117000.out⟩, ⟨by (with_reducible repeat (first | apply Kd.R_alloc | apply Kd.R_drewN | apply Kd.R_drew)); exact Kd.R_mono HO_117001.out (fun _ hk => trivial)⟩, ⟨by (repeat refine bk ?_); exact BK101.out⟩, ⟨by (repeat refine bk ?_); exact BK102.out⟩, ⟨by (repeat refine bk ?_); exact BK103.out⟩, ⟨by (repeat refine bk ?_); exact BK113.out⟩, ⟨by (repeat refine bk ?_); exact BK116.out⟩, ⟨by repeat (first | (with_reducible first | exact HB.out | apply below_alloc | apply pw_below_drewN | apply below_drew1 | refine below_set ?_ (Aside0.out (by assumption))) | exact HB.out)⟩⟩
           ·
            rw [if_neg c106] at H
            exact absurd H (by simp)
          ·
           rw [if_neg c105] at H
           exact absurd H (by simp)
         ·
          rw [if_neg c104] at H
          have c104b0 : decide (x80_3 < (l1_0.length : Int)) = false := decide_eq_false c104
          clear c104
          have H' := Aside0.mk H
          clear H
          have hnb165 := NB101_102.out
          have hnc165 := NB102_101.out
          have hnb166 := NB101_103.out
          have hnc166 := NB103_101.out
          have hnb167 := NB101_113.out
          have hnc167 := NB113_101.out
          have hnb168 := NB101_116.out
          have hnc168 := NB116_101.out
          obtain ⟨hcz169_0, hcz169_1, hcz169_2⟩ := bc3 BK101.out
          obtain ⟨hfz169_0, hfz169_1, hfz169_2⟩ := bz3 BK101.out
          go_wp2
          go_loopg [106] k3 (fun kq v106 w' => ∃ (x106_4 : Int) (x117002_4 : List (S97)) (u117002 : Value), v106 = .int .i64 x106_4 ∧ Aside0 (band_Problem.l3 kq l1_1 (l1_1.length : Int) x106_4 l1_0 l1_1 l1_2 t104 t105 t106 t107 t108 t109 t110 t111 x117000_2 x117001_3 x117002_4 = some (r1, r2, r3, r4, r5)) ∧ Aside0 (kq ≤ k3) ∧ Aside0 (Kd.S k86 86 w' w.heap.size (fun _ => True) u117000 x117000_2) ∧ Aside0 (Kd.R k84 84 w' w.heap.size (fun _ => True) u117001 x117001_3) ∧ Aside0 (Kd.R k97 97 w' w.heap.size (fun _ => True) u117002 x117002_4) ∧ Aside0 (w'.heap[gb101]? = some (.cells #[(.slice A1_0 l1_0.length c1_0), (.slice A1_1 l1_1.length c1_1), (.slice A1_2 l1_2.length c1_2)] 44 (0, 0))) ∧ Aside0 (w'.heap[gb102]? = some (.cells #[.int .i64 a2_0] 34 (0, 0))) ∧ Aside0 (w'.heap[gb103]? = some (.cells #[(.slice none 0 0), (.slice none 0 0), (.slice none 0 0), (.slice none 0 0)] 49 (0, 0))) ∧ Aside0 (w'.heap[gb113]? = some (.cells #[.int .u64 t104, .int .u64 t105, .int .u64 t106, .int .u64 t107, .int .u64 t108, .int .u64 t109, .int .u64 t110, .int .u64 t111] 92 (0, 0))) ∧ Aside0 (w'.heap[gb116]? = some (.cells #[u117000, u117001, u117002, (.slice none 0 0)] 49 (0, 0))) ∧ Aside0 (Below w.heap.size w w'))
          case atStart => exact ⟨(0), (([] : List (S97))), (.slice none 0 0), (by first | rfl | (simp; done) | (simp [*]; done)), H', ⟨Nat.le_refl _⟩, ⟨by (with_reducible repeat (first | apply Kd.S_alloc | apply Kd.S_drewN | apply Kd.S_drew)); exact HO_117000.out⟩, ⟨by (with_reducible repeat (first | apply Kd.R_alloc | apply Kd.R_drewN | apply Kd.R_drew)); exact HO_117001.out⟩, ⟨by first | exact Kd.R_nil _ _ _ _ _ | exact Kd.N_nil _ _ _ _ _ | exact Kd.V_nil _ _ _ _ _ | exact Kd.Q_nil _ _ _ _ _ | exact Kd.S_nil _ _ _ _ _⟩, ⟨by (repeat refine bk ?_); exact BK101.out⟩, ⟨by (repeat refine bk ?_); exact BK102.out⟩, ⟨by (repeat refine bk ?_); exact BK103.out⟩, ⟨by (repeat refine bk ?_); exact BK113.out⟩, ⟨by (repeat refine bk ?_); exact BK116.out⟩, ⟨by repeat (first | (with_reducible first | exact HB.out | apply below_alloc | apply pw_below_drewN | apply below_drew1 | refine below_set ?_ (Aside0.out (by assumption))) | exact HB.out)⟩⟩
          case round =>
           clear H'
           try clear c1
           try clear p1
           try clear q1
           try clear hx1
           try clear c2
           try clear p2
           try clear c3
           try clear c4
           try clear c5
           try clear c6
           try clear p6
           try clear c7
           try clear c8
           try clear c9
           try clear c10
           try clear c11
           try clear p11
           try clear q11
           try clear hx11
           try clear c12
           try clear p12
           try clear q12
           try clear hx12
           try clear c13
           try clear p13
           try clear q13
           try clear hx13
           try clear c14
           try clear c15
           try clear c16
           try clear c17
           try clear c19
           try clear c20
           try clear c21
           try clear c24
           try clear c25
           try clear c28
           try clear c29
           try clear c30
           try clear c33
           try clear c34
           try clear c35
           try clear c36
           try clear c39
           try clear c39b0
           try clear c40
           try clear c40b0
           try clear c41
           try clear c41b0
           try clear c43
           try clear c44
           try clear c45
           try clear c46
           try clear c47
           try clear c50
           try clear c51
           try clear c52
           try clear c53
           try clear c54
           try clear c55
           try clear c58
           try clear c58b0
           try clear c59
           try clear c59b0
           try clear c60
           try clear c60b0
           try clear c62
           try clear c63
           try clear c64
           try clear p64
           try clear c65
           try clear c66
           try clear c67
           try clear c68
           try clear c71
           try clear c72
           try clear c73
           try clear c74
           try clear c75
           try clear c81
           try clear c82
           try clear c83
           try clear c84
           try clear c85
           try clear c86
           try clear c87
           try clear c89
           try clear c90
           try clear c91
           try clear c92
           try clear c93
           try clear c99
           try clear c100
           try clear c101
           try clear c102
           try clear c104
           try clear c104b0
           try clear c105
           try clear c105b0
           try clear c106
           try clear c106b0
           try clear c108
           try clear c110
           try clear c111
           try clear c113
           try clear c114
           try clear c115
           try clear c116
           try clear c117
           try clear p117
           try clear q117
           try clear hx117
           try clear c119
           try clear c120
           try clear p120
           try clear q120
           try clear hx120
           try clear c121
           try clear c122
           try clear c128
           try clear c129
           try clear c130
           try clear p131
           try clear q131
           try clear hx131
           try clear c137
           try clear c138
           try clear c139
           try clear c140
           try clear c141
           try clear c143
           try clear c144
           try clear c145
           try clear c146
           try clear c153
           try clear c154
           try clear c155
           try clear c156
           try clear c157
           try clear c159
           try clear c160
           try clear c161
           try clear c162
           try clear c165
           try clear c166
           try clear c167
           try clear c168
           try clear hcz103_0
           try clear hcz103_1
           try clear hcz103_2
           try clear hcz118_0
           try clear hcz118_1
           try clear hcz118_2
           try clear hcz118_3
           try clear hcz118_4
           try clear hcz123_0
           try clear hcz123_1
           try clear hcz123_2
           try clear hcz123_3
           try clear hcz123_4
           try clear hcz123_5
           try clear hcz123_6
           try clear hcz123_7
           try clear hcz125_0
           try clear hcz125_1
           try clear hcz125_2
           try clear hcz125_3
           try clear hcz125_4
           try clear hcz125_5
           try clear hcz125_6
           try clear hcz125_7
           try clear hcz126_0
           try clear hcz126_1
           try clear hcz126_2
           try clear hcz126_3
           try clear hcz126_4
           try clear hcz131_0
           try clear hcz131_1
           try clear hcz131_2
           try clear hcz131_3
           try clear hcz132_0
           try clear hcz132_1
           try clear hcz132_2
           try clear hcz132_3
           try clear hcz132_4
           try clear hcz135_0
           try clear hcz135_1
           try clear hcz135_2
           try clear hcz135_3
           try clear hcz142_0
           try clear hcz142_1
           try clear hcz142_2
           try clear hcz142_3
           try clear hcz142_4
           try clear hcz147_0
           try clear hcz147_1
           try clear hcz147_2
           try clear hcz147_3
           try clear hcz147_4
           try clear hcz147_5
           try clear hcz147_6
           try clear hcz147_7
           try clear hcz149_0
           try clear hcz149_1
           try clear hcz149_2
           try clear hcz149_3
           try clear hcz149_4
           try clear hcz149_5
           try clear hcz149_6
           try clear hcz149_7
           try clear hcz14_0
           try clear hcz14_1
           try clear hcz14_2
           try clear hcz14_3
           try clear hcz14_4
           try clear hcz14_5
           try clear hcz14_6
           try clear hcz14_7
           try clear hcz150_0
           try clear hcz150_1
           try clear hcz150_2
           try clear hcz150_3
           try clear hcz150_4
           try clear hcz158_0
           try clear hcz158_1
           try clear hcz158_2
           try clear hcz158_3
           try clear hcz158_4
           try clear hcz163_0
           try clear hcz163_1
           try clear hcz163_2
           try clear hcz163_3
           try clear hcz163_4
           try clear hcz163_5
           try clear hcz163_6
           try clear hcz163_7
           try clear hcz169_0
           try clear hcz169_1
           try clear hcz169_2
           try clear hcz22_0
           try clear hcz22_1
           try clear hcz22_2
           try clear hcz26_0
           try clear hcz31_0
           try clear hcz31_1
           try clear hcz31_2
           try clear hcz37_0
           try clear hcz37_1
           try clear hcz37_2
           try clear hcz37_3
           try clear hcz48_0
           try clear hcz48_1
           try clear hcz56_0
           try clear hcz56_1
           try clear hcz57_0
           try clear hcz57_1
           try clear hcz69_0
           try clear hcz76_0
           try clear hcz76_1
           try clear hcz80_0
           try clear hcz80_1
           try clear hcz88_0
           try clear hcz88_1
           try clear hcz88_2
           try clear hcz88_3
           try clear hcz94_0
           try clear hcz94_1
           try clear hcz98_0
           try clear hcz98_1
           try clear hcz98_2
           try clear hcz98_3
           try clear hfz103_0
           try clear hfz103_1
           try clear hfz103_2
           try clear hfz118_0
           try clear hfz118_1
           try clear hfz118_2
           try clear hfz118_3
           try clear hfz118_4
           try clear hfz123_0
           try clear hfz123_1
           try clear hfz123_2
           try clear hfz123_3
           try clear hfz123_4
           try clear hfz123_5
           try clear hfz123_6
           try clear hfz123_7
           try clear hfz125_0
           try clear hfz125_1
           try clear hfz125_2
           try clear hfz125_3
           try clear hfz125_4
           try clear hfz125_5
           try clear hfz125_6
           try clear hfz125_7
           try clear hfz126_0
           try clear hfz126_1
           try clear hfz126_2
           try clear hfz126_3
           try clear hfz126_4
           try clear hfz131_0
           try clear hfz131_1
           try clear hfz131_2
           try clear hfz131_3
           try clear hfz132_0
           try clear hfz132_1
           try clear hfz132_2
           try clear hfz132_3
           try clear hfz132_4
           try clear hfz135_0
           try clear hfz135_1
           try clear hfz135_2
           try clear hfz135_3
           try clear hfz142_0
           try clear hfz142_1
           try clear hfz142_2
           try clear hfz142_3
           try clear hfz142_4
           try clear hfz147_0
           try clear hfz147_1
           try clear hfz147_2
           try clear hfz147_3
           try clear hfz147_4
           try clear hfz147_5
           try clear hfz147_6
           try clear hfz147_7
           try clear hfz149_0
           try clear hfz149_1
           try clear hfz149_2
           try clear hfz149_3
           try clear hfz149_4
           try clear hfz149_5
           try clear hfz149_6
           try clear hfz149_7
           try clear hfz14_0
           try clear hfz14_1
           try clear hfz14_2
           try clear hfz14_3
           try clear hfz14_4
           try clear hfz14_5
           try clear hfz14_6
           try clear hfz14_7
           try clear hfz150_0
           try clear hfz150_1
           try clear hfz150_2
           try clear hfz150_3
           try clear hfz150_4
           try clear hfz158_0
           try clear hfz158_1
           try clear hfz158_2
           try clear hfz158_3
           try clear hfz158_4
           try clear hfz163_0
           try clear hfz163_1
           try clear hfz163_2
           try clear hfz163_3
           try clear hfz163_4
           try clear hfz163_5
           try clear hfz163_6
           try clear hfz163_7
           try clear hfz169_0
           try clear hfz169_1
           try clear hfz169_2
           try clear hfz22_0
           try clear hfz22_1
           try clear hfz22_2
           try clear hfz26_0
           try clear hfz31_0
           try clear hfz31_1
           try clear hfz31_2
           try clear hfz37_0
           try clear hfz37_1
           try clear hfz37_2
           try clear hfz37_3
           try clear hfz48_0
           try clear hfz48_1
           try clear hfz56_0
           try clear hfz56_1
           try clear hfz57_0
           try clear hfz57_1
           try clear hfz69_0
           try clear hfz76_0
           try clear hfz76_1
           try clear hfz80_0
           try clear hfz80_1
           try clear hfz88_0
           try clear hfz88_1
           try clear hfz88_2
           try clear hfz88_3
           try clear hfz94_0
           try clear hfz94_1
           try clear hfz98_0
           try clear hfz98_1
           try clear hfz98_2
           try clear hfz98_3
           try clear hx117_0
           try clear hx117_1
           try clear hx120_0
           try clear hx131_0
           try clear hx131_1
           try clear hx131_2
           try clear hx131_3
           try clear hx131_4
           try clear p1
           try clear p11
           try clear p117
           try clear p12
           try clear p120
           try clear p131
           try clear p2
           try clear p6
           try clear p64
           try clear q1
           try clear q11
           try clear q117
           try clear q12
           try clear q120
           try clear q131
           obtain ⟨x106_4, x117002_4, u117002, rfl, HA, HK4, HO_117000, HO_117001, HO_117002, BK101, BK102, BK103, BK113, BK116, HB⟩ := hrel
           cases gk with
           | zero => exact absurd HA.out (by simp [band_Problem.l3])
           | succ k4 =>
            have H := HA.out
            clear HA
            simp only [band_Problem.l3] at H
            by_cases c170 : x106_4 < (l1_1.length : Int)
            ·
             rw [if_pos c170] at H
             have c170b0 : decide (x106_4 < (l1_1.length : Int)) = true := decide_eq_true c170
             clear c170
             by_cases c171 : 0 ≤ x106_4
             ·
              rw [if_pos c171] at H
              have c171b0 : decide (0 ≤ x106_4) = true := decide_eq_true c171
              clear c171
              by_cases c172 : x106_4 < (l1_1.length : Int)
              ·
               rw [if_pos c172] at H
               have c172b0 : decide (x106_4 < (l1_1.length : Int)) = true := decide_eq_true c172
               clear c172
               replace H := Option.bind_eq_some_iff.mp H
               obtain ⟨t140, A1730, H⟩ := H
               replace H : (if t140 = true then ((bitset_Set_Has.f t104 t105 t106 t107 t108 t109 t110 t111 ((rd_T97 l1_1 x106_4).f1)).bind fun t141 => (if t141 = true then (if x117002_4.length < 3518437208883 then (band_Problem.l3 k4 l1_1 (l1_1.length : Int) (wrap64 (x106_4 + 1)) l1_0 l1_1 l1_2 t104 t105 t106 t107 t108 t109 t110 t111 x117000_2 x117001_3 (x117002_4 ++ [(⟨(rd_T97 l1_1 x106_4).f0, (rd_T97 l1_1 x106_4).f1, (rd_T97 l1_1 x106_4).f2, (rd_T97 l1_1 x106_4).f3, (rd_T97 l1_1 x106_4).f4⟩ : S97)])) else (none)) else (band_Problem.l3 k4 l1_1 (l1_1.length : Int) (wrap64 (x106_4 + 1)) l1_0 l1_1 l1_2 t104 t105 t106 t107 t108 t109 t110 t111 x117000_2 x117001_3 x117002_4))) else (band_Problem.l3 k4 l1_1 (l1_1.length : Int) (wrap64 (x106_4 + 1)) l1_0 l1_1 l1_2 t104 t105 t106 t107 t108 t109 t110 t111 x117000_2 x117001_3 x117002_4)) = some (r1, r2, r3, r4, r5) := H
               have A173 := Aside0.mk A1730
               clear A1730
               by_cases c174 : t140 = true
               ·
                subst c174
                have H1 : ((bitset_Set_Has.f t104 t105 t106 t107 t108 t109 t110 t111 ((rd_T97 l1_1 x106_4).f1)).bind fun t141 => (if t141 = true then (if x117002_4.length < 3518437208883 then (band_Problem.l3 k4 l1_1 (l1_1.length : Int) (wrap64 (x106_4 + 1)) l1_0 l1_1 l1_2 t104 t105 t106 t107 t108 t109 t110 t111 x117000_2 x117001_3 (x117002_4 ++ [(⟨(rd_T97 l1_1 x106_4).f0, (rd_T97 l1_1 x106_4).f1, (rd_T97 l1_1 x106_4).f2, (rd_T97 l1_1 x106_4).f3, (rd_T97 l1_1 x106_4).f4⟩ : S97)])) else (none)) else (band_Problem.l3 k4 l1_1 (l1_1.length : Int) (wrap64 (x106_4 + 1)) l1_0 l1_1 l1_2 t104 t105 t106 t107 t108 t109 t110 t111 x117000_2 x117001_3 x117002_4))) = some (r1, r2, r3, r4, r5) := by rw [if_pos rfl] at H; exact H
                clear H
                have H := H1
                clear H1
                replace H := Option.bind_eq_some_iff.mp H
                obtain ⟨t141, A1750, H⟩ := H
                replace H : (if t141 = true then (if x117002_4.length < 3518437208883 then (band_Problem.l3 k4 l1_1 (l1_1.length : Int) (wrap64 (x106_4 + 1)) l1_0 l1_1 l1_2 t104 t105 t106 t107 t108 t109 t110 t111 x117000_2 x117001_3 (x117002_4 ++ [(⟨(rd_T97 l1_1 x106_4).f0, (rd_T97 l1_1 x106_4).f1, (rd_T97 l1_1 x106_4).f2, (rd_T97 l1_1 x106_4).f3, (rd_T97 l1_1 x106_4).f4⟩ : S97)])) else (none)) else (band_Problem.l3 k4 l1_1 (l1_1.length : Int) (wrap64 (x106_4 + 1)) l1_0 l1_1 l1_2 t104 t105 t106 t107 t108 t109 t110 t111 x117000_2 x117001_3 x117002_4)) = some (r1, r2, r3, r4, r5) := H
                have A175 := Aside0.mk A1750
                clear A1750
                by_cases c176 : t141 = true
                ·
                 subst c176
                 have H1 : (if x117002_4.length < 3518437208883 then (band_Problem.l3 k4 l1_1 (l1_1.length : Int) (wrap64 (x106_4 + 1)) l1_0 l1_1 l1_2 t104 t105 t106 t107 t108 t109 t110 t111 x117000_2 x117001_3 (x117002_4 ++ [(⟨(rd_T97 l1_1 x106_4).f0, (rd_T97 l1_1 x106_4).f1, (rd_T97 l1_1 x106_4).f2, (rd_T97 l1_1 x106_4).f3, (rd_T97 l1_1 x106_4).f4⟩ : S97)])) else (none)) = some (r1, r2, r3, r4, r5) := by rw [if_pos rfl] at H; exact H
                 clear H
                 have H := H1
                 clear H1
                 by_cases c177 : x117002_4.length < 3518437208883
                 ·
                  rw [if_pos c177] at H
                  have LMc177 := Aside0.mk c177
                  clear c177
                  obtain ⟨y142, hy142⟩ : ∃ y_ : List (S97), y_ = (x117002_4 ++ [(⟨(rd_T97 l1_1 x106_4).f0, (rd_T97 l1_1 x106_4).f1, (rd_T97 l1_1 x106_4).f2, (rd_T97 l1_1 x106_4).f3, (rd_T97 l1_1 x106_4).f4⟩ : S97)]) := ⟨_, rfl⟩
                  replace H : (band_Problem.l3 k4 l1_1 (l1_1.length : Int) (wrap64 (x106_4 + 1)) l1_0 l1_1 l1_2 t104 t105 t106 t107 t108 t109 t110 t111 x117000_2 x117001_3 y142) = some (r1, r2, r3, r4, r5) := by first | (rw [hy142]; with_reducible exact H) | (have H2_ := (Option.bind_some _ _).symm.trans H; rw [hy142]; with_reducible exact H2_) | (have H2_ := (Option.bind_some _ _).symm.trans H; with_reducible exact H2_) | with_reducible exact H | (rw [hy142]; exact H) | exact H
                  have Ny142 := Aside0.mk hy142
                  clear hy142
                  have H' := Aside0.mk H
                  clear H
                  have p138 : 0 ≤ (x106_4 : Int) := of_decide_eq_true (by first | (with_reducible assumption) | assumption)
                  have q138 : x106_4 < (l1_1.length : Int) := of_decide_eq_true (by first | (with_reducible assumption) | assumption)
                  obtain ⟨ad138, e138, hx138_0, hx138_1, hx138_2, hx138_3, hx138_4⟩ := at_T97 HR1_1.out x106_4 p138 q138
                  cases e138
                  replace hx138_0 := (HB.out.cell (World.block_lt_of_cell? w _ hx138_0)).trans hx138_0
                  replace hx138_1 := (HB.out.cell (World.block_lt_of_cell? w _ hx138_1)).trans hx138_1
                  replace hx138_2 := (HB.out.cell (World.block_lt_of_cell? w _ hx138_2)).trans hx138_2
                  replace hx138_3 := (HB.out.cell (World.block_lt_of_cell? w _ hx138_3)).trans hx138_3
                  replace hx138_4 := (HB.out.cell (World.block_lt_of_cell? w _ hx138_4)).trans hx138_4
                  replace p138 := eq_true p138
                  replace q138 := eq_true q138
                  go_wp2_with (first | ((with_reducible refine gate_dst (N := 21) rfl ?_); refine box_event ?hg (N := 21) ?hd (cs := #[.int .i64 0, .int .i64 0, .int .i64 0, .int .i64 0, .int .i64 0]) (t := 97) ?hr ?_; (case hd => rfl); (case hg => rfl); (case hr => first | (go_simp; done) | (go_simp; rfl)); intro gb139 hg w178 hbox hb; have n0_ := Aside0.mk (Kd.S_below (by (with_reducible repeat (first | apply Kd.S_alloc | apply Kd.S_drewN | apply Kd.S_drew)); exact HO_117000.out) hb); have n1_ := Aside0.mk (Kd.R_below (by (with_reducible repeat (first | apply Kd.R_alloc | apply Kd.R_drewN | apply Kd.R_drew)); exact HO_117001.out) hb); have n2_ := Aside0.mk (Kd.R_below (Kd.R_elderB (by (with_reducible repeat (first | apply Kd.R_alloc | apply Kd.R_drewN | apply Kd.R_drew)); exact HO_117002.out) gb139 (Nat.le_of_eq hg.symm)) hb); have n3_ := Aside0.mk (bb BK101.out hb); have n4_ := Aside0.mk (bb BK102.out hb); have n5_ := Aside0.mk (bb BK103.out hb); have n6_ := Aside0.mk (bb BK113.out hb); have n7_ := Aside0.mk (bb BK116.out hb); have n8_ := Aside0.mk (below_step (by repeat (first | (with_reducible first | exact HB.out | apply below_alloc | apply pw_below_drewN | apply below_drew1 | refine below_set ?_ (Aside0.out (by assumption))) | exact HB.out)) hb); have n9_ := Aside0.mk (hbox); have n10_ := Aside0.mk ((by rw [hg]; exact (below_size (by repeat (first | (with_reducible first | exact HB.out | apply below_alloc | apply pw_below_drewN | apply below_drew1 | refine below_set ?_ (Aside0.out (by assumption))) | exact HB.out))) : w.heap.size ≤ gb139)); have n11_ := Aside0.mk ((by rw [hg]; exact (below_size (by repeat (first | (with_reducible first | exact HB.out | apply below_alloc | apply pw_below_drewN | apply below_drew1 | refine below_set ?_ (Aside0.out (by assumption))) | exact HB.out))) : w.heap.size ≤ gb139)); have n12_ := Aside0.mk ((by rw [hg]; exact Nat.ne_of_lt (bl BK101.out) : gb101 ≠ gb139)); have n13_ := Aside0.mk ((by rw [hg]; exact Nat.ne_of_gt (bl BK101.out) : gb139 ≠ gb101)); have n14_ := Aside0.mk ((by rw [hg]; exact Nat.ne_of_lt (bl BK102.out) : gb102 ≠ gb139)); have n15_ := Aside0.mk ((by rw [hg]; exact Nat.ne_of_gt (bl BK102.out) : gb139 ≠ gb102)); have n16_ := Aside0.mk ((by rw [hg]; exact Nat.ne_of_lt (bl BK103.out) : gb103 ≠ gb139)); have n17_ := Aside0.mk ((by rw [hg]; exact Nat.ne_of_gt (bl BK103.out) : gb139 ≠ gb103)); have n18_ := Aside0.mk ((by rw [hg]; exact Nat.ne_of_lt (bl BK113.out) : gb113 ≠ gb139)); have n19_ := Aside0.mk ((by rw [hg]; exact Nat.ne_of_gt (bl BK113.out) : gb139 ≠ gb113)); have n20_ := Aside0.mk ((by rw [hg]; exact Nat.ne_of_lt (bl BK116.out) : gb116 ≠ gb139)); have n21_ := Aside0.mk ((by rw [hg]; exact Nat.ne_of_gt (bl BK116.out) : gb139 ≠ gb116)); clear HO_117000 HO_117001 HO_117002 BK101 BK102 BK103 BK113 BK116 HB; have HO_117000 := n0_; have HO_117001 := n1_; have HO_117002 := n2_; have BK101 := n3_; have BK102 := n4_; have BK103 := n5_; have BK113 := n6_; have BK116 := n7_; have HB := n8_; have BK139 := n9_; have GW139 := n10_; have GE139 := n11_; have NB101_139 := n12_; have NB139_101 := n13_; have NB102_139 := n14_; have NB139_102 := n15_; have NB103_139 := n16_; have NB139_103 := n17_; have NB113_139 := n18_; have NB139_113 := n19_; have NB116_139 := n20_; have NB139_116 := n21_; clear n0_ n1_ n2_ n3_ n4_ n5_ n6_ n7_ n8_ n9_ n10_ n11_ n12_ n13_ n14_ n15_ n16_ n17_ n18_ n19_ n20_ n21_; clear hb hbox hg; have hnb179 := NB139_101.out; have hnc179 := NB101_139.out; have hnb180 := NB139_102.out; have hnc180 := NB102_139.out; have hnb181 := NB139_103.out; have hnc181 := NB103_139.out; have hnb182 := NB139_113.out; have hnc182 := NB113_139.out; have hnb183 := NB139_116.out; have hnc183 := NB116_139.out; obtain ⟨hcz184_0, hcz184_1, hcz184_2, hcz184_3, hcz184_4⟩ := bc5 BK139.out; obtain ⟨hfz184_0, hfz184_1, hfz184_2, hfz184_3, hfz184_4⟩ := bz5 BK139.out; have hnb185 := NB113_101.out; have hnc185 := NB101_113.out; have hnb186 := NB113_102.out; have hnc186 := NB102_113.out; have hnb187 := NB113_103.out; have hnc187 := NB103_113.out; have hnb188 := NB113_116.out; have hnc188 := NB116_113.out; obtain ⟨hcz189_0, hcz189_1, hcz189_2, hcz189_3, hcz189_4, hcz189_5, hcz189_6, hcz189_7⟩ := bc8 BK113.out; obtain ⟨hfz189_0, hfz189_1, hfz189_2, hfz189_3, hfz189_4, hfz189_5, hfz189_6, hfz189_7⟩ := bz8 BK113.out) | ((with_reducible refine gate_callee (f := 43) rfl ?_); refine goesL_ (some 113) rfl rfl Try.func43 (by kernel_rfl) rfl #[.agg #[.int .u64 t104, .int .u64 t105, .int .u64 t106, .int .u64 t107, .int .u64 t108, .int .u64 t109, .int .u64 t110, .int .u64 t111], .int .i64 ((rd_T97 l1_1 x106_4).f0)] rfl (by (try simp only [List.map_toArray, List.map_cons, List.map_nil]); first | done | rfl | (simp only [List.length_drop, List.length_take]; rfl)) ?_; (with_reducible refine (bitset_Set_Has.calls t104 t105 t106 t107 t108 t109 t110 t111 ((rd_T97 l1_1 x106_4).f0) true _ A173.out).mono ?_); rintro e w190 ⟨rfl, hb⟩; refine ⟨_, rfl, ?_⟩; have n0_ := Aside0.mk (Kd.S_below (by (with_reducible repeat (first | apply Kd.S_alloc | apply Kd.S_drewN | apply Kd.S_drew)); exact (Kd.S_mono (Kd.S_far (p := ⟨gb139, 4, none⟩) (Kd.S_far (p := ⟨gb139, 3, none⟩) (Kd.S_far (p := ⟨gb139, 2, none⟩) (Kd.S_far (p := ⟨gb139, 1, none⟩) (Kd.S_far (p := ⟨gb139, 0, none⟩) (Kd.S_types HO_117000.out BK139.out (by decide)) (fun _ hk => hk.2) (.int .i64 ((rd_T97 l1_1 x106_4).f0))) (fun _ hk => hk.2) (.int .i64 ((rd_T97 l1_1 x106_4).f1))) (fun _ hk => hk.2) (.int .i64 ((rd_T97 l1_1 x106_4).f2))) (fun _ hk => hk.2) (.int .i64 ((rd_T97 l1_1 x106_4).f3))) (fun _ hk => hk.2) (.int .i64 ((rd_T97 l1_1 x106_4).f4))) (fun _ h_ => h_.1))) hb); have n1_ := Aside0.mk (Kd.R_below (by (with_reducible repeat (first | apply Kd.R_alloc | apply Kd.R_drewN | apply Kd.R_drew)); exact (Kd.R_mono (Kd.R_far (p := ⟨gb139, 4, none⟩) (Kd.R_far (p := ⟨gb139, 3, none⟩) (Kd.R_far (p := ⟨gb139, 2, none⟩) (Kd.R_far (p := ⟨gb139, 1, none⟩) (Kd.R_far (p := ⟨gb139, 0, none⟩) (Kd.R_types HO_117001.out BK139.out (by decide)) (fun _ hk => hk.2) (.int .i64 ((rd_T97 l1_1 x106_4).f0))) (fun _ hk => hk.2) (.int .i64 ((rd_T97 l1_1 x106_4).f1))) (fun _ hk => hk.2) (.int .i64 ((rd_T97 l1_1 x106_4).f2))) (fun _ hk => hk.2) (.int .i64 ((rd_T97 l1_1 x106_4).f3))) (fun _ hk => hk.2) (.int .i64 ((rd_T97 l1_1 x106_4).f4))) (fun _ h_ => h_.1))) hb); have n2_ := Aside0.mk (Kd.R_below (by (with_reducible repeat (first | apply Kd.R_alloc | apply Kd.R_drewN | apply Kd.R_drew)); exact (Kd.R_mono (Kd.R_far (p := ⟨gb139, 4, none⟩) (Kd.R_far (p := ⟨gb139, 3, none⟩) (Kd.R_far (p := ⟨gb139, 2, none⟩) (Kd.R_far (p := ⟨gb139, 1, none⟩) (Kd.R_far (p := ⟨gb139, 0, none⟩) (Kd.R_mono HO_117002.out (fun k_ hk => (⟨hk, hk.2⟩ : _ ∧ k_ ≠ gb139))) (fun _ hk => hk.2) (.int .i64 ((rd_T97 l1_1 x106_4).f0))) (fun _ hk => hk.2) (.int .i64 ((rd_T97 l1_1 x106_4).f1))) (fun _ hk => hk.2) (.int .i64 ((rd_T97 l1_1 x106_4).f2))) (fun _ hk => hk.2) (.int .i64 ((rd_T97 l1_1 x106_4).f3))) (fun _ hk => hk.2) (.int .i64 ((rd_T97 l1_1 x106_4).f4))) (fun _ h_ => h_.1))) hb); have n3_ := Aside0.mk (blk_below (g := gb101) (o := .cells #[.slice A1_0 l1_0.length c1_0, .slice (some ad138) l1_1.length c1_1, .slice A1_2 l1_2.length c1_2] 44 (0, 0)) (by (repeat refine bk ?_); refine blk_far ?_ NB101_139.out _; (repeat refine bk ?_); refine blk_far ?_ NB101_139.out _; (repeat refine bk ?_); refine blk_far ?_ NB101_139.out _; (repeat refine bk ?_); refine blk_far ?_ NB101_139.out _; (repeat refine bk ?_); refine blk_far ?_ NB101_139.out _; (repeat refine bk ?_); exact BK101.out) hb); have n4_ := Aside0.mk (blk_below (g := gb102) (o := .cells #[.int .i64 a2_0] 34 (0, 0)) (by (repeat refine bk ?_); refine blk_far ?_ NB102_139.out _; (repeat refine bk ?_); refine blk_far ?_ NB102_139.out _; (repeat refine bk ?_); refine blk_far ?_ NB102_139.out _; (repeat refine bk ?_); refine blk_far ?_ NB102_139.out _; (repeat refine bk ?_); refine blk_far ?_ NB102_139.out _; (repeat refine bk ?_); exact BK102.out) hb); have n5_ := Aside0.mk (blk_below (g := gb103) (o := .cells #[.slice none 0 0, .slice none 0 0, .slice none 0 0, .slice none 0 0] 49 (0, 0)) (by (repeat refine bk ?_); refine blk_far ?_ NB103_139.out _; (repeat refine bk ?_); refine blk_far ?_ NB103_139.out _; (repeat refine bk ?_); refine blk_far ?_ NB103_139.out _; (repeat refine bk ?_); refine blk_far ?_ NB103_139.out _; (repeat refine bk ?_); refine blk_far ?_ NB103_139.out _; (repeat refine bk ?_); exact BK103.out) hb); have n6_ := Aside0.mk (blk_below (g := gb113) (o := .cells #[.int .u64 t104, .int .u64 t105, .int .u64 t106, .int .u64 t107, .int .u64 t108, .int .u64 t109, .int .u64 t110, .int .u64 t111] 92 (0, 0)) (by (repeat refine bk ?_); refine blk_far ?_ NB113_139.out _; (repeat refine bk ?_); refine blk_far ?_ NB113_139.out _; (repeat refine bk ?_); refine blk_far ?_ NB113_139.out _; (repeat refine bk ?_); refine blk_far ?_ NB113_139.out _; (repeat refine bk ?_); refine blk_far ?_ NB113_139.out _; (repeat refine bk ?_); exact BK113.out) hb); have n7_ := Aside0.mk (blk_below (g := gb116) (o := .cells #[u117000, u117001, u117002, .slice none 0 0] 49 (0, 0)) (by (repeat refine bk ?_); refine blk_far ?_ NB116_139.out _; (repeat refine bk ?_); refine blk_far ?_ NB116_139.out _; (repeat refine bk ?_); refine blk_far ?_ NB116_139.out _; (repeat refine bk ?_); refine blk_far ?_ NB116_139.out _; (repeat refine bk ?_); refine blk_far ?_ NB116_139.out _; (repeat refine bk ?_); exact BK116.out) hb); have n8_ := Aside0.mk (blk_below (g := gb139) (o := .cells #[.int .i64 ((rd_T97 l1_1 x106_4).f0), .int .i64 ((rd_T97 l1_1 x106_4).f1), .int .i64 ((rd_T97 l1_1 x106_4).f2), .int .i64 ((rd_T97 l1_1 x106_4).f3), .int .i64 ((rd_T97 l1_1 x106_4).f4)] 97 (0, 0)) (by (repeat refine bk ?_); refine blk_put (cs := #[.int .i64 ((rd_T97 l1_1 x106_4).f0), .int .i64 ((rd_T97 l1_1 x106_4).f1), .int .i64 ((rd_T97 l1_1 x106_4).f2), .int .i64 ((rd_T97 l1_1 x106_4).f3), .int .i64 0]) ?_ 4 _ rfl; (repeat refine bk ?_); refine blk_put (cs := #[.int .i64 ((rd_T97 l1_1 x106_4).f0), .int .i64 ((rd_T97 l1_1 x106_4).f1), .int .i64 ((rd_T97 l1_1 x106_4).f2), .int .i64 0, .int .i64 0]) ?_ 3 _ rfl; (repeat refine bk ?_); refine blk_put (cs := #[.int .i64 ((rd_T97 l1_1 x106_4).f0), .int .i64 ((rd_T97 l1_1 x106_4).f1), .int .i64 0, .int .i64 0, .int .i64 0]) ?_ 2 _ rfl; (repeat refine bk ?_); refine blk_put (cs := #[.int .i64 ((rd_T97 l1_1 x106_4).f0), .int .i64 0, .int .i64 0, .int .i64 0, .int .i64 0]) ?_ 1 _ rfl; (repeat refine bk ?_); refine blk_put (cs := #[.int .i64 0, .int .i64 0, .int .i64 0, .int .i64 0, .int .i64 0]) ?_ 0 _ rfl; (repeat refine bk ?_); exact BK139.out) hb); have n9_ := Aside0.mk (below_step (by repeat (first | (with_reducible first | exact HB.out | apply below_alloc | apply pw_below_drewN | apply below_drew1 | refine below_set ?_ (Aside0.out (by assumption))) | exact HB.out)) hb); clear HO_117000 HO_117001 HO_117002 BK101 BK102 BK103 BK113 BK116 BK139 HB; have HO_117000 := n0_; have HO_117001 := n1_; have HO_117002 := n2_; have BK101 := n3_; have BK102 := n4_; have BK103 := n5_; have BK113 := n6_; have BK116 := n7_; have BK139 := n8_; have HB := n9_; clear n0_ n1_ n2_ n3_ n4_ n5_ n6_ n7_ n8_ n9_; (try clear hb); (try clear hb2); (try clear hk); (try clear hi); obtain ⟨hcz191_0, hcz191_1, hcz191_2, hcz191_3, hcz191_4, hcz191_5, hcz191_6, hcz191_7⟩ := bc8 BK113.out; obtain ⟨hfz191_0, hfz191_1, hfz191_2, hfz191_3, hfz191_4, hfz191_5, hfz191_6, hfz191_7⟩ := bz8 BK113.out; obtain ⟨hcz192_0, hcz192_1, hcz192_2, hcz192_3, hcz192_4⟩ := bc5 BK139.out; obtain ⟨hfz192_0, hfz192_1, hfz192_2, hfz192_3, hfz192_4⟩ := bz5 BK139.out) | (go_at_call 43; (with_reducible refine (bitset_Set_Has.calls t104 t105 t106 t107 t108 t109 t110 t111 ((rd_T97 l1_1 x106_4).f1) true _ A175.out).mono ?_); rintro e w193 ⟨rfl, hb⟩; have n0_ := Aside0.mk (Kd.S_below (by (with_reducible repeat (first | apply Kd.S_alloc | apply Kd.S_drewN | apply Kd.S_drew)); exact HO_117000.out) hb); have n1_ := Aside0.mk (Kd.R_below (by (with_reducible repeat (first | apply Kd.R_alloc | apply Kd.R_drewN | apply Kd.R_drew)); exact HO_117001.out) hb); have n2_ := Aside0.mk (Kd.R_below (by (with_reducible repeat (first | apply Kd.R_alloc | apply Kd.R_drewN | apply Kd.R_drew)); exact HO_117002.out) hb); have n3_ := Aside0.mk (bb BK101.out hb); have n4_ := Aside0.mk (bb BK102.out hb); have n5_ := Aside0.mk (bb BK103.out hb); have n6_ := Aside0.mk (bb BK113.out hb); have n7_ := Aside0.mk (bb BK116.out hb); have n8_ := Aside0.mk (bb BK139.out hb); have n9_ := Aside0.mk (below_step (by repeat (first | (with_reducible first | exact HB.out | apply below_alloc | apply pw_below_drewN | apply below_drew1 | refine below_set ?_ (Aside0.out (by assumption))) | exact HB.out)) hb); clear HO_117000 HO_117001 HO_117002 BK101 BK102 BK103 BK113 BK116 BK139 HB; have HO_117000 := n0_; have HO_117001 := n1_; have HO_117002 := n2_; have BK101 := n3_; have BK102 := n4_; have BK103 := n5_; have BK113 := n6_; have BK116 := n7_; have BK139 := n8_; have HB := n9_; clear n0_ n1_ n2_ n3_ n4_ n5_ n6_ n7_ n8_ n9_; (try clear hb); (try clear hb2); (try clear hk); (try clear hi); have hnb194 := NB116_101.out; have hnc194 := NB101_116.out; have hnb195 := NB116_102.out; have hnc195 := NB102_116.out; have hnb196 := NB116_103.out; have hnc196 := NB103_116.out; obtain ⟨hcz197_0, hcz197_1, hcz197_2, hcz197_3⟩ := bc4 BK116.out; obtain ⟨hfz197_0, hfz197_1, hfz197_2, hfz197_3⟩ := bz4 BK116.out; obtain ⟨hcz198_0, hcz198_1, hcz198_2, hcz198_3, hcz198_4⟩ := bc5 BK139.out; obtain ⟨hfz198_0, hfz198_1, hfz198_2, hfz198_3, hfz198_4⟩ := bz5 BK139.out) | ((with_reducible refine gate_builtin (b := .append) (xs := #[.tmp 122, .tmp 124]) rfl ?_); at_builtin; refine Kd.R_append k97 (w0 := w) w.heap.size rfl (.tmp 122) (.tmp 124) 41 97 (.agg #[(.int .i64 0), (.int .i64 0), (.int .i64 0), (.int .i64 0), (.int .i64 0)]) 40 rfl Try.underlying41 info97 rfl (by decide) (by omega) u117002 x117002_4 (⟨(rd_T97 l1_1 x106_4).f0, (rd_T97 l1_1 x106_4).f1, (rd_T97 l1_1 x106_4).f2, (rd_T97 l1_1 x106_4).f3, (rd_T97 l1_1 x106_4).f4⟩ : S97) [.int .i64 ((rd_T97 l1_1 x106_4).f0), .int .i64 ((rd_T97 l1_1 x106_4).f1), .int .i64 ((rd_T97 l1_1 x106_4).f2), .int .i64 ((rd_T97 l1_1 x106_4).f3), .int .i64 ((rd_T97 l1_1 x106_4).f4)] (fun k_ => k_ ≠ gb139) (fun _ => False) rfl rfl ?aP (fun _ hk => hk.elim) ?aF ?aO ?aB ?aS ?aL ?_; (case aP => exact k97_mkM _ _ _ (⟨(rd_T97 l1_1 x106_4).f0, (rd_T97 l1_1 x106_4).f1, (rd_T97 l1_1 x106_4).f2, (rd_T97 l1_1 x106_4).f3, (rd_T97 l1_1 x106_4).f4⟩ : S97)); (case aB => exact (by repeat (first | (with_reducible first | exact HB.out | apply below_alloc | apply pw_below_drewN | apply below_drew1 | refine below_set ?_ (Aside0.out (by assumption))) | exact HB.out))); (case aF => exact (fun k_ hk => Kd.freshB (g := gb139) (o := .cells #[.int .i64 ((rd_T97 l1_1 x106_4).f0), .int .i64 ((rd_T97 l1_1 x106_4).f1), .int .i64 ((rd_T97 l1_1 x106_4).f2), .int .i64 ((rd_T97 l1_1 x106_4).f3), .int .i64 ((rd_T97 l1_1 x106_4).f4)] 97 (0, 0)) (by (repeat refine bk ?_); exact BK139.out) k_ hk)); (case aO => exact (by (with_reducible repeat (first | apply Kd.R_alloc | apply Kd.R_drewN | apply Kd.R_drew)); exact Kd.R_mono HO_117002.out (fun _ hk => hk.2))); (case aS => exact (below_size (by repeat (first | (with_reducible first | exact HB.out | apply below_alloc | apply pw_below_drewN | apply below_drew1 | refine below_set ?_ (Aside0.out (by assumption))) | exact HB.out)))); (case aL => have := LMc177.out; omega); intro v143 w199 ho hb hg hat; rw [← Ny142.out] at ho; have n0_ := Aside0.mk (Kd.S_over' (by (with_reducible repeat (first | apply Kd.S_alloc | apply Kd.S_drewN | apply Kd.S_drew)); exact HO_117000.out) (Kd.R_typed (by (with_reducible repeat (first | apply Kd.R_alloc | apply Kd.R_drewN | apply Kd.R_drew)); exact HO_117002.out)) (by decide) hg); have n1_ := Aside0.mk (Kd.R_over' (by (with_reducible repeat (first | apply Kd.R_alloc | apply Kd.R_drewN | apply Kd.R_drew)); exact HO_117001.out) (Kd.R_typed (by (with_reducible repeat (first | apply Kd.R_alloc | apply Kd.R_drewN | apply Kd.R_drew)); exact HO_117002.out)) (by decide) hg); have n2_ := Aside0.mk (bg BK101.out hg (Kd.R_ne HO_117002.out BK101.out (by decide))); have n3_ := Aside0.mk (bg BK102.out hg (Kd.R_ne HO_117002.out BK102.out (by decide))); have n4_ := Aside0.mk (bg BK103.out hg (Kd.R_ne HO_117002.out BK103.out (by decide))); have n5_ := Aside0.mk (bg BK113.out hg (Kd.R_ne HO_117002.out BK113.out (by decide))); have n6_ := Aside0.mk (bg BK116.out hg (Kd.R_ne HO_117002.out BK116.out (by decide))); have n7_ := Aside0.mk (bg BK139.out hg (Kd.R_away HO_117002.out (fun _ hk => hk.2))); have n8_ := Aside0.mk (hb); have n9_ := Aside0.mk (ho); clear HO_117000 HO_117001 BK101 BK102 BK103 BK113 BK116 BK139 HB HO_117002; have HO_117000 := n0_; have HO_117001 := n1_; have BK101 := n2_; have BK102 := n3_; have BK103 := n4_; have BK113 := n5_; have BK116 := n6_; have BK139 := n7_; have HB := n8_; have HO144 := n9_; clear n0_ n1_ n2_ n3_ n4_ n5_ n6_ n7_ n8_ n9_; clear ho hb hg hat; obtain ⟨Ao200, co200, eo200⟩ := Kd.R_slice HO144.out; subst eo200; obtain ⟨hcz201_0, hcz201_1, hcz201_2, hcz201_3⟩ := bc4 BK116.out; obtain ⟨hfz201_0, hfz201_1, hfz201_2, hfz201_3⟩ := bz4 BK116.out))
                  go_roundg k4
                  case measure => have := HJ4.out; have := HK2.out; have := HK3.out; have := HK4.out; omega
                  case rel => exact ⟨(wrap64 (x106_4 + 1)), (y142), (.slice Ao200 y142.length co200), (by first | rfl | (simp; done) | (simp [*]; done)), H', ⟨by have := HJ4.out; have := HK2.out; have := HK3.out; have := HK4.out; omega⟩, ⟨by (with_reducible repeat (first | apply Kd.S_alloc | apply Kd.S_drewN | apply Kd.S_drew)); exact Kd.S_mono (Kd.S_far (p := ⟨gb116, 2, none⟩) (Kd.S_types HO_117000.out BK116.out (by decide)) (fun _ hk => hk.2) (.slice Ao200 y142.length co200)) (fun _ hk => trivial)⟩, ⟨by (with_reducible repeat (first | apply Kd.R_alloc | apply Kd.R_drewN | apply Kd.R_drew)); exact Kd.R_mono (Kd.R_far (p := ⟨gb116, 2, none⟩) (Kd.R_types HO_117001.out BK116.out (by decide)) (fun _ hk => hk.2) (.slice Ao200 y142.length co200)) (fun _ hk => trivial)⟩, ⟨by (with_reducible repeat (first | apply Kd.R_alloc | apply Kd.R_drewN | apply Kd.R_drew)); exact Kd.R_mono (Kd.R_far (p := ⟨gb116, 2, none⟩) (Kd.R_types HO144.out BK116.out (by decide)) (fun _ hk => hk.2) (.slice Ao200 y142.length co200)) (fun _ hk => trivial)⟩, ⟨by (repeat refine bk ?_); refine blk_far ?_ NB101_116.out _; (repeat refine bk ?_); exact BK101.out⟩, ⟨by (repeat refine bk ?_); refine blk_far ?_ NB102_116.out _; (repeat refine bk ?_); exact BK102.out⟩, ⟨by (repeat refine bk ?_); refine blk_far ?_ NB103_116.out _; (repeat refine bk ?_); exact BK103.out⟩, ⟨by (repeat refine bk ?_); refine blk_far ?_ NB113_116.out _; (repeat refine bk ?_); exact BK113.out⟩, ⟨by (repeat refine bk ?_); refine blk_put (cs := #[u117000, u117001, u117002, .slice none 0 0]) ?_ 2 _ rfl; (repeat refine bk ?_); exact BK116.out⟩, ⟨by repeat (first | (with_reducible first | exact HB.out | apply below_alloc | apply pw_below_drewN | apply below_drew1 | refine below_set ?_ (Aside0.out (by assumption))) | exact HB.out)⟩⟩
                 ·
                  rw [if_neg c177] at H
                  exact absurd H (by simp)
                ·
                 replace c176 := Bool.eq_false_iff.mpr c176
                 subst c176
                 have H1 : (band_Problem.l3 k4 l1_1 (l1_1.length : Int) (wrap64 (x106_4 + 1)) l1_0 l1_1 l1_2 t104 t105 t106 t107 t108 t109 t110 t111 x117000_2 x117001_3 x117002_4) = some (r1, r2, r3, r4, r5) := by rw [if_neg (show ¬ (false = true) by decide)] at H; exact H
                 clear H
                 have H := H1
                 clear H1
                 have H' := Aside0.mk H
                 clear H
                 have p138 : 0 ≤ (x106_4 : Int) := of_decide_eq_true (by first | (with_reducible assumption) | assumption)
                 have q138 : x106_4 < (l1_1.length : Int) := of_decide_eq_true (by first | (with_reducible assumption) | assumption)
                 obtain ⟨ad138, e138, hx138_0, hx138_1, hx138_2, hx138_3, hx138_4⟩ := at_T97 HR1_1.out x106_4 p138 q138
                 cases e138
                 replace hx138_0 := (HB.out.cell (World.block_lt_of_cell? w _ hx138_0)).trans hx138_0
                 replace hx138_1 := (HB.out.cell (World.block_lt_of_cell? w _ hx138_1)).trans hx138_1
                 replace hx138_2 := (HB.out.cell (World.block_lt_of_cell? w _ hx138_2)).trans hx138_2
                 replace hx138_3 := (HB.out.cell (World.block_lt_of_cell? w _ hx138_3)).trans hx138_3
                 replace hx138_4 := (HB.out.cell (World.block_lt_of_cell? w _ hx138_4)).trans hx138_4
                 replace p138 := eq_true p138
                 replace q138 := eq_true q138
                 go_wp2_with (first | ((with_reducible refine gate_dst (N := 21) rfl ?_); refine box_event ?hg (N := 21) ?hd (cs := #[.int .i64 0, .int .i64 0, .int .i64 0, .int .i64 0, .int .i64 0]) (t := 97) ?hr ?_; (case hd => rfl); (case hg => rfl); (case hr => first | (go_simp; done) | (go_simp; rfl)); intro gb139 hg w202 hbox hb; have n0_ := Aside0.mk (Kd.S_below (by (with_reducible repeat (first | apply Kd.S_alloc | apply Kd.S_drewN | apply Kd.S_drew)); exact HO_117000.out) hb); have n1_ := Aside0.mk (Kd.R_below (by (with_reducible repeat (first | apply Kd.R_alloc | apply Kd.R_drewN | apply Kd.R_drew)); exact HO_117001.out) hb); have n2_ := Aside0.mk (Kd.R_below (Kd.R_elderB (by (with_reducible repeat (first | apply Kd.R_alloc | apply Kd.R_drewN | apply Kd.R_drew)); exact HO_117002.out) gb139 (Nat.le_of_eq hg.symm)) hb); have n3_ := Aside0.mk (bb BK101.out hb); have n4_ := Aside0.mk (bb BK102.out hb); have n5_ := Aside0.mk (bb BK103.out hb); have n6_ := Aside0.mk (bb BK113.out hb); have n7_ := Aside0.mk (bb BK116.out hb); have n8_ := Aside0.mk (below_step (by repeat (first | (with_reducible first | exact HB.out | apply below_alloc | apply pw_below_drewN | apply below_drew1 | refine below_set ?_ (Aside0.out (by assumption))) | exact HB.out)) hb); have n9_ := Aside0.mk (hbox); have n10_ := Aside0.mk ((by rw [hg]; exact (below_size (by repeat (first | (with_reducible first | exact HB.out | apply below_alloc | apply pw_below_drewN | apply below_drew1 | refine below_set ?_ (Aside0.out (by assumption))) | exact HB.out))) : w.heap.size ≤ gb139)); have n11_ := Aside0.mk ((by rw [hg]; exact (below_size (by repeat (first | (with_reducible first | exact HB.out | apply below_alloc | apply pw_below_drewN | apply below_drew1 | refine below_set ?_ (Aside0.out (by assumption))) | exact HB.out))) : w.heap.size ≤ gb139)); have n12_ := Aside0.mk ((by rw [hg]; exact Nat.ne_of_lt (bl BK101.out) : gb101 ≠ gb139)); have n13_ := Aside0.mk ((by rw [hg]; exact Nat.ne_of_gt (bl BK101.out) : gb139 ≠ gb101)); have n14_ := Aside0.mk ((by rw [hg]; exact Nat.ne_of_lt (bl BK102.out) : gb102 ≠ gb139)); have n15_ := Aside0.mk ((by rw [hg]; exact Nat.ne_of_gt (bl BK102.out) : gb139 ≠ gb102)); have n16_ := Aside0.mk ((by rw [hg]; exact Nat.ne_of_lt (bl BK103.out) : gb103 ≠ gb139)); have n17_ := Aside0.mk ((by rw [hg]; exact Nat.ne_of_gt (bl BK103.out) : gb139 ≠ gb103)); have n18_ := Aside0.mk ((by rw [hg]; exact Nat.ne_of_lt (bl BK113.out) : gb113 ≠ gb139)); have n19_ := Aside0.mk ((by rw [hg]; exact Nat.ne_of_gt (bl BK113.out) : gb139 ≠ gb113)); have n20_ := Aside0.mk ((by rw [hg]; exact Nat.ne_of_lt (bl BK116.out) : gb116 ≠ gb139)); have n21_ := Aside0.mk ((by rw [hg]; exact Nat.ne_of_gt (bl BK116.out) : gb139 ≠ gb116)); clear HO_117000 HO_117001 HO_117002 BK101 BK102 BK103 BK113 BK116 HB; have HO_117000 := n0_; have HO_117001 := n1_; have HO_117002 := n2_; have BK101 := n3_; have BK102 := n4_; have BK103 := n5_; have BK113 := n6_; have BK116 := n7_; have HB := n8_; have BK139 := n9_; have GW139 := n10_; have GE139 := n11_; have NB101_139 := n12_; have NB139_101 := n13_; have NB102_139 := n14_; have NB139_102 := n15_; have NB103_139 := n16_; have NB139_103 := n17_; have NB113_139 := n18_; have NB139_113 := n19_; have NB116_139 := n20_; have NB139_116 := n21_; clear n0_ n1_ n2_ n3_ n4_ n5_ n6_ n7_ n8_ n9_ n10_ n11_ n12_ n13_ n14_ n15_ n16_ n17_ n18_ n19_ n20_ n21_; clear hb hbox hg; have hnb203 := NB139_101.out; have hnc203 := NB101_139.out; have hnb204 := NB139_102.out; have hnc204 := NB102_139.out; have hnb205 := NB139_103.out; have hnc205 := NB103_139.out; have hnb206 := NB139_113.out; have hnc206 := NB113_139.out; have hnb207 := NB139_116.out; have hnc207 := NB116_139.out; obtain ⟨hcz208_0, hcz208_1, hcz208_2, hcz208_3, hcz208_4⟩ := bc5 BK139.out; obtain ⟨hfz208_0, hfz208_1, hfz208_2, hfz208_3, hfz208_4⟩ := bz5 BK139.out; have hnb209 := NB113_101.out; have hnc209 := NB101_113.out; have hnb210 := NB113_102.out; have hnc210 := NB102_113.out; have hnb211 := NB113_103.out; have hnc211 := NB103_113.out; have hnb212 := NB113_116.out; have hnc212 := NB116_113.out; obtain ⟨hcz213_0, hcz213_1, hcz213_2, hcz213_3, hcz213_4, hcz213_5, hcz213_6, hcz213_7⟩ := bc8 BK113.out; obtain ⟨hfz213_0, hfz213_1, hfz213_2, hfz213_3, hfz213_4, hfz213_5, hfz213_6, hfz213_7⟩ := bz8 BK113.out) | ((with_reducible refine gate_callee (f := 43) rfl ?_); refine goesL_ (some 113) rfl rfl Try.func43 (by kernel_rfl) rfl #[.agg #[.int .u64 t104, .int .u64 t105, .int .u64 t106, .int .u64 t107, .int .u64 t108, .int .u64 t109, .int .u64 t110, .int .u64 t111], .int .i64 ((rd_T97 l1_1 x106_4).f0)] rfl (by (try simp only [List.map_toArray, List.map_cons, List.map_nil]); first | done | rfl | (simp only [List.length_drop, List.length_take]; rfl)) ?_; (with_reducible refine (bitset_Set_Has.calls t104 t105 t106 t107 t108 t109 t110 t111 ((rd_T97 l1_1 x106_4).f0) true _ A173.out).mono ?_); rintro e w214 ⟨rfl, hb⟩; refine ⟨_, rfl, ?_⟩; have n0_ := Aside0.mk (Kd.S_below (by (with_reducible repeat (first | apply Kd.S_alloc | apply Kd.S_drewN | apply Kd.S_drew)); exact (Kd.S_mono (Kd.S_far (p := ⟨gb139, 4, none⟩) (Kd.S_far (p := ⟨gb139, 3, none⟩) (Kd.S_far (p := ⟨gb139, 2, none⟩) (Kd.S_far (p := ⟨gb139, 1, none⟩) (Kd.S_far (p := ⟨gb139, 0, none⟩) (Kd.S_types HO_117000.out BK139.out (by decide)) (fun _ hk => hk.2) (.int .i64 ((rd_T97 l1_1 x106_4).f0))) (fun _ hk => hk.2) (.int .i64 ((rd_T97 l1_1 x106_4).f1))) (fun _ hk => hk.2) (.int .i64 ((rd_T97 l1_1 x106_4).f2))) (fun _ hk => hk.2) (.int .i64 ((rd_T97 l1_1 x106_4).f3))) (fun _ hk => hk.2) (.int .i64 ((rd_T97 l1_1 x106_4).f4))) (fun _ h_ => h_.1))) hb); have n1_ := Aside0.mk (Kd.R_below (by (with_reducible repeat (first | apply Kd.R_alloc | apply Kd.R_drewN | apply Kd.R_drew)); exact (Kd.R_mono (Kd.R_far (p := ⟨gb139, 4, none⟩) (Kd.R_far (p := ⟨gb139, 3, none⟩) (Kd.R_far (p := ⟨gb139, 2, none⟩) (Kd.R_far (p := ⟨gb139, 1, none⟩) (Kd.R_far (p := ⟨gb139, 0, none⟩) (Kd.R_types HO_117001.out BK139.out (by decide)) (fun _ hk => hk.2) (.int .i64 ((rd_T97 l1_1 x106_4).f0))) (fun _ hk => hk.2) (.int .i64 ((rd_T97 l1_1 x106_4).f1))) (fun _ hk => hk.2) (.int .i64 ((rd_T97 l1_1 x106_4).f2))) (fun _ hk => hk.2) (.int .i64 ((rd_T97 l1_1 x106_4).f3))) (fun _ hk => hk.2) (.int .i64 ((rd_T97 l1_1 x106_4).f4))) (fun _ h_ => h_.1))) hb); have n2_ := Aside0.mk (Kd.R_below (by (with_reducible repeat (first | apply Kd.R_alloc | apply Kd.R_drewN | apply Kd.R_drew)); exact (Kd.R_mono (Kd.R_far (p := ⟨gb139, 4, none⟩) (Kd.R_far (p := ⟨gb139, 3, none⟩) (Kd.R_far (p := ⟨gb139, 2, none⟩) (Kd.R_far (p := ⟨gb139, 1, none⟩) (Kd.R_far (p := ⟨gb139, 0, none⟩) (Kd.R_mono HO_117002.out (fun k_ hk => (⟨hk, hk.2⟩ : _ ∧ k_ ≠ gb139))) (fun _ hk => hk.2) (.int .i64 ((rd_T97 l1_1 x106_4).f0))) (fun _ hk => hk.2) (.int .i64 ((rd_T97 l1_1 x106_4).f1))) (fun _ hk => hk.2) (.int .i64 ((rd_T97 l1_1 x106_4).f2))) (fun _ hk => hk.2) (.int .i64 ((rd_T97 l1_1 x106_4).f3))) (fun _ hk => hk.2) (.int .i64 ((rd_T97 l1_1 x106_4).f4))) (fun _ h_ => h_.1))) hb); have n3_ := Aside0.mk (blk_below (g := gb101) (o := .cells #[.slice A1_0 l1_0.length c1_0, .slice (some ad138) l1_1.length c1_1, .slice A1_2 l1_2.length c1_2] 44 (0, 0)) (by (repeat refine bk ?_); refine blk_far ?_ NB101_139.out _; (repeat refine bk ?_); refine blk_far ?_ NB101_139.out _; (repeat refine bk ?_); refine blk_far ?_ NB101_139.out _; (repeat refine bk ?_); refine blk_far ?_ NB101_139.out _; (repeat refine bk ?_); refine blk_far ?_ NB101_139.out _; (repeat refine bk ?_); exact BK101.out) hb); have n4_ := Aside0.mk (blk_below (g := gb102) (o := .cells #[.int .i64 a2_0] 34 (0, 0)) (by (repeat refine bk ?_); refine blk_far ?_ NB102_139.out _; (repeat refine bk ?_); refine blk_far ?_ NB102_139.out _; (repeat refine bk ?_); refine blk_far ?_ NB102_139.out _; (repeat refine bk ?_); refine blk_far ?_ NB102_139.out _; (repeat refine bk ?_); refine blk_far ?_ NB102_139.out _; (repeat refine bk ?_); exact BK102.out) hb); have n5_ := Aside0.mk (blk_below (g := gb103) (o := .cells #[.slice none 0 0, .slice none 0 0, .slice none 0 0, .slice none 0 0] 49 (0, 0)) (by (repeat refine bk ?_); refine blk_far ?_ NB103_139.out _; (repeat refine bk ?_); refine blk_far ?_ NB103_139.out _; (repeat refine bk ?_); refine blk_far ?_ NB103_139.out _; (repeat refine bk ?_); refine blk_far ?_ NB103_139.out _; (repeat refine bk ?_); refine blk_far ?_ NB103_139.out _; (repeat refine bk ?_); exact BK103.out) hb); have n6_ := Aside0.mk (blk_below (g := gb113) (o := .cells #[.int .u64 t104, .int .u64 t105, .int .u64 t106, .int .u64 t107, .int .u64 t108, .int .u64 t109, .int .u64 t110, .int .u64 t111] 92 (0, 0)) (by (repeat refine bk ?_); refine blk_far ?_ NB113_139.out _; (repeat refine bk ?_); refine blk_far ?_ NB113_139.out _; (repeat refine bk ?_); refine blk_far ?_ NB113_139.out _; (repeat refine bk ?_); refine blk_far ?_ NB113_139.out _; (repeat refine bk ?_); refine blk_far ?_ NB113_139.out _; (repeat refine bk ?_); exact BK113.out) hb); have n7_ := Aside0.mk (blk_below (g := gb116) (o := .cells #[u117000, u117001, u117002, .slice none 0 0] 49 (0, 0)) (by (repeat refine bk ?_); refine blk_far ?_ NB116_139.out _; (repeat refine bk ?_); refine blk_far ?_ NB116_139.out _; (repeat refine bk ?_); refine blk_far ?_ NB116_139.out _; (repeat refine bk ?_); refine blk_far ?_ NB116_139.out _; (repeat refine bk ?_); refine blk_far ?_ NB116_139.out _; (repeat refine bk ?_); exact BK116.out) hb); have n8_ := Aside0.mk (blk_below (g := gb139) (o := .cells #[.int .i64 ((rd_T97 l1_1 x106_4).f0), .int .i64 ((rd_T97 l1_1 x106_4).f1), .int .i64 ((rd_T97 l1_1 x106_4).f2), .int .i64 ((rd_T97 l1_1 x106_4).f3), .int .i64 ((rd_T97 l1_1 x106_4).f4)] 97 (0, 0)) (by (repeat refine bk ?_); refine blk_put (cs := #[.int .i64 ((rd_T97 l1_1 x106_4).f0), .int .i64 ((rd_T97 l1_1 x106_4).f1), .int .i64 ((rd_T97 l1_1 x106_4).f2), .int .i64 ((rd_T97 l1_1 x106_4).f3), .int .i64 0]) ?_ 4 _ rfl; (repeat refine bk ?_); refine blk_put (cs := #[.int .i64 ((rd_T97 l1_1 x106_4).f0), .int .i64 ((rd_T97 l1_1 x106_4).f1), .int .i64 ((rd_T97 l1_1 x106_4).f2), .int .i64 0, .int .i64 0]) ?_ 3 _ rfl; (repeat refine bk ?_); refine blk_put (cs := #[.int .i64 ((rd_T97 l1_1 x106_4).f0), .int .i64 ((rd_T97 l1_1 x106_4).f1), .int .i64 0, .int .i64 0, .int .i64 0]) ?_ 2 _ rfl; (repeat refine bk ?_); refine blk_put (cs := #[.int .i64 ((rd_T97 l1_1 x106_4).f0), .int .i64 0, .int .i64 0, .int .i64 0, .int .i64 0]) ?_ 1 _ rfl; (repeat refine bk ?_); refine blk_put (cs := #[.int .i64 0, .int .i64 0, .int .i64 0, .int .i64 0, .int .i64 0]) ?_ 0 _ rfl; (repeat refine bk ?_); exact BK139.out) hb); have n9_ := Aside0.mk (below_step (by repeat (first | (with_reducible first | exact HB.out | apply below_alloc | apply pw_below_drewN | apply below_drew1 | refine below_set ?_ (Aside0.out (by assumption))) | exact HB.out)) hb); clear HO_117000 HO_117001 HO_117002 BK101 BK102 BK103 BK113 BK116 BK139 HB; have HO_117000 := n0_; have HO_117001 := n1_; have HO_117002 := n2_; have BK101 := n3_; have BK102 := n4_; have BK103 := n5_; have BK113 := n6_; have BK116 := n7_; have BK139 := n8_; have HB := n9_; clear n0_ n1_ n2_ n3_ n4_ n5_ n6_ n7_ n8_ n9_; (try clear hb); (try clear hb2); (try clear hk); (try clear hi); obtain ⟨hcz215_0, hcz215_1, hcz215_2, hcz215_3, hcz215_4, hcz215_5, hcz215_6, hcz215_7⟩ := bc8 BK113.out; obtain ⟨hfz215_0, hfz215_1, hfz215_2, hfz215_3, hfz215_4, hfz215_5, hfz215_6, hfz215_7⟩ := bz8 BK113.out; obtain ⟨hcz216_0, hcz216_1, hcz216_2, hcz216_3, hcz216_4⟩ := bc5 BK139.out; obtain ⟨hfz216_0, hfz216_1, hfz216_2, hfz216_3, hfz216_4⟩ := bz5 BK139.out) | (go_at_call 43; (with_reducible refine (bitset_Set_Has.calls t104 t105 t106 t107 t108 t109 t110 t111 ((rd_T97 l1_1 x106_4).f1) false _ A175.out).mono ?_); rintro e w217 ⟨rfl, hb⟩; have n0_ := Aside0.mk (Kd.S_below (by (with_reducible repeat (first | apply Kd.S_alloc | apply Kd.S_drewN | apply Kd.S_drew)); exact HO_117000.out) hb); have n1_ := Aside0.mk (Kd.R_below (by (with_reducible repeat (first | apply Kd.R_alloc | apply Kd.R_drewN | apply Kd.R_drew)); exact HO_117001.out) hb); have n2_ := Aside0.mk (Kd.R_below (by (with_reducible repeat (first | apply Kd.R_alloc | apply Kd.R_drewN | apply Kd.R_drew)); exact HO_117002.out) hb); have n3_ := Aside0.mk (bb BK101.out hb); have n4_ := Aside0.mk (bb BK102.out hb); have n5_ := Aside0.mk (bb BK103.out hb); have n6_ := Aside0.mk (bb BK113.out hb); have n7_ := Aside0.mk (bb BK116.out hb); have n8_ := Aside0.mk (bb BK139.out hb); have n9_ := Aside0.mk (below_step (by repeat (first | (with_reducible first | exact HB.out | apply below_alloc | apply pw_below_drewN | apply below_drew1 | refine below_set ?_ (Aside0.out (by assumption))) | exact HB.out)) hb); clear HO_117000 HO_117001 HO_117002 BK101 BK102 BK103 BK113 BK116 BK139 HB; have HO_117000 := n0_; have HO_117001 := n1_; have HO_117002 := n2_; have BK101 := n3_; have BK102 := n4_; have BK103 := n5_; have BK113 := n6_; have BK116 := n7_; have BK139 := n8_; have HB := n9_; clear n0_ n1_ n2_ n3_ n4_ n5_ n6_ n7_ n8_ n9_; (try clear hb); (try clear hb2); (try clear hk); (try clear hi)))
                 go_roundg k4
                 case measure => have := HJ4.out; have := HK2.out; have := HK3.out; have := HK4.out; omega
                 case rel => exact ⟨(wrap64 (x106_4 + 1)), (x117002_4), (u117002), (by first | rfl | (simp; done) | (simp [*]; done)), H', ⟨by have := HJ4.out; have := HK2.out; have := HK3.out; have := HK4.out; omega⟩, ⟨by (with_reducible repeat (first | apply Kd.S_alloc | apply Kd.S_drewN | apply Kd.S_drew)); exact HO_117000.out⟩, ⟨by (with_reducible repeat (first | apply Kd.R_alloc | apply Kd.R_drewN | apply Kd.R_drew)); exact HO_117001.out⟩, ⟨by (with_reducible repeat (first | apply Kd.R_alloc | apply Kd.R_drewN | apply Kd.R_drew)); exact Kd.R_mono HO_117002.out (fun _ hk => trivial)⟩, ⟨by (repeat refine bk ?_); exact BK101.out⟩, ⟨by (repeat refine bk ?_); exact BK102.out⟩, ⟨by (repeat refine bk ?_); exact BK103.out⟩, ⟨by (repeat refine bk ?_); exact BK113.out⟩, ⟨by (repeat refine bk ?_); exact BK116.out⟩, ⟨by repeat (first | (with_reducible first | exact HB.out | apply below_alloc | apply pw_below_drewN | apply below_drew1 | refine below_set ?_ (Aside0.out (by assumption))) | exact HB.out)⟩⟩
               ·
                replace c174 := Bool.eq_false_iff.mpr c174
                subst c174
                have H1 : (band_Problem.l3 k4 l1_1 (l1_1.length : Int) (wrap64 (x106_4 + 1)) l1_0 l1_1 l1_2 t104 t105 t106 t107 t108 t109 t110 t111 x117000_2 x117001_3 x117002_4) = some (r1, r2, r3, r4, r5) := by rw [if_neg (show ¬ (false = true) by decide)] at H; exact H
                clear H
                have H := H1
                clear H1
                have H' := Aside0.mk H
                clear H
                have p138 : 0 ≤ (x106_4 : Int) := of_decide_eq_true (by first | (with_reducible assumption) | assumption)
                have q138 : x106_4 < (l1_1.length : Int) := of_decide_eq_true (by first | (with_reducible assumption) | assumption)
                obtain ⟨ad138, e138, hx138_0, hx138_1, hx138_2, hx138_3, hx138_4⟩ := at_T97 HR1_1.out x106_4 p138 q138
                cases e138
                replace hx138_0 := (HB.out.cell (World.block_lt_of_cell? w _ hx138_0)).trans hx138_0
                replace hx138_1 := (HB.out.cell (World.block_lt_of_cell? w _ hx138_1)).trans hx138_1
                replace hx138_2 := (HB.out.cell (World.block_lt_of_cell? w _ hx138_2)).trans hx138_2
                replace hx138_3 := (HB.out.cell (World.block_lt_of_cell? w _ hx138_3)).trans hx138_3
                replace hx138_4 := (HB.out.cell (World.block_lt_of_cell? w _ hx138_4)).trans hx138_4
                replace p138 := eq_true p138
                replace q138 := eq_true q138
                go_wp2_with (first | ((with_reducible refine gate_dst (N := 21) rfl ?_); refine box_event ?hg (N := 21) ?hd (cs := #[.int .i64 0, .int .i64 0, .int .i64 0, .int .i64 0, .int .i64 0]) (t := 97) ?hr ?_; (case hd => rfl); (case hg => rfl); (case hr => first | (go_simp; done) | (go_simp; rfl)); intro gb139 hg w218 hbox hb; have n0_ := Aside0.mk (Kd.S_below (by (with_reducible repeat (first | apply Kd.S_alloc | apply Kd.S_drewN | apply Kd.S_drew)); exact HO_117000.out) hb); have n1_ := Aside0.mk (Kd.R_below (by (with_reducible repeat (first | apply Kd.R_alloc | apply Kd.R_drewN | apply Kd.R_drew)); exact HO_117001.out) hb); have n2_ := Aside0.mk (Kd.R_below (Kd.R_elderB (by (with_reducible repeat (first | apply Kd.R_alloc | apply Kd.R_drewN | apply Kd.R_drew)); exact HO_117002.out) gb139 (Nat.le_of_eq hg.symm)) hb); have n3_ := Aside0.mk (bb BK101.out hb); have n4_ := Aside0.mk (bb BK102.out hb); have n5_ := Aside0.mk (bb BK103.out hb); have n6_ := Aside0.mk (bb BK113.out hb); have n7_ := Aside0.mk (bb BK116.out hb); have n8_ := Aside0.mk (below_step (by repeat (first | (with_reducible first | exact HB.out | apply below_alloc | apply pw_below_drewN | apply below_drew1 | refine below_set ?_ (Aside0.out (by assumption))) | exact HB.out)) hb); have n9_ := Aside0.mk (hbox); have n10_ := Aside0.mk ((by rw [hg]; exact (below_size (by repeat (first | (with_reducible first | exact HB.out | apply below_alloc | apply pw_below_drewN | apply below_drew1 | refine below_set ?_ (Aside0.out (by assumption))) | exact HB.out))) : w.heap.size ≤ gb139)); have n11_ := Aside0.mk ((by rw [hg]; exact (below_size (by repeat (first | (with_reducible first | exact HB.out | apply below_alloc | apply pw_below_drewN | apply below_drew1 | refine below_set ?_ (Aside0.out (by assumption))) | exact HB.out))) : w.heap.size ≤ gb139)); have n12_ := Aside0.mk ((by rw [hg]; exact Nat.ne_of_lt (bl BK101.out) : gb101 ≠ gb139)); have n13_ := Aside0.mk ((by rw [hg]; exact Nat.ne_of_gt (bl BK101.out) : gb139 ≠ gb101)); have n14_ := Aside0.mk ((by rw [hg]; exact Nat.ne_of_lt (bl BK102.out) : gb102 ≠ gb139)); have n15_ := Aside0.mk ((by rw [hg]; exact Nat.ne_of_gt (bl BK102.out) : gb139 ≠ gb102)); have n16_ := Aside0.mk ((by rw [hg]; exact Nat.ne_of_lt (bl BK103.out) : gb103 ≠ gb139)); have n17_ := Aside0.mk ((by rw [hg]; exact Nat.ne_of_gt (bl BK103.out) : gb139 ≠ gb103)); have n18_ := Aside0.mk ((by rw [hg]; exact Nat.ne_of_lt (bl BK113.out) : gb113 ≠ gb139)); have n19_ := Aside0.mk ((by rw [hg]; exact Nat.ne_of_gt (bl BK113.out) : gb139 ≠ gb113)); have n20_ := Aside0.mk ((by rw [hg]; exact Nat.ne_of_lt (bl BK116.out) : gb116 ≠ gb139)); have n21_ := Aside0.mk ((by rw [hg]; exact Nat.ne_of_gt (bl BK116.out) : gb139 ≠ gb116)); clear HO_117000 HO_117001 HO_117002 BK101 BK102 BK103 BK113 BK116 HB; have HO_117000 := n0_; have HO_117001 := n1_; have HO_117002 := n2_; have BK101 := n3_; have BK102 := n4_; have BK103 := n5_; have BK113 := n6_; have BK116 := n7_; have HB := n8_; have BK139 := n9_; have GW139 := n10_; have GE139 := n11_; have NB101_139 := n12_; have NB139_101 := n13_; have NB102_139 := n14_; have NB139_102 := n15_; have NB103_139 := n16_; have NB139_103 := n17_; have NB113_139 := n18_; have NB139_113 := n19_; have NB116_139 := n20_; have NB139_116 := n21_; clear n0_ n1_ n2_ n3_ n4_ n5_ n6_ n7_ n8_ n9_ n10_ n11_ n12_ n13_ n14_ n15_ n16_ n17_ n18_ n19_ n20_ n21_; clear hb hbox hg; have hnb219 := NB139_101.out; have hnc219 := NB101_139.out; have hnb220 := NB139_102.out; have hnc220 := NB102_139.out; have hnb221 := NB139_103.out; have hnc221 := NB103_139.out; have hnb222 := NB139_113.out; have hnc222 := NB113_139.out; have hnb223 := NB139_116.out; have hnc223 := NB116_139.out; obtain ⟨hcz224_0, hcz224_1, hcz224_2, hcz224_3, hcz224_4⟩ := bc5 BK139.out; obtain ⟨hfz224_0, hfz224_1, hfz224_2, hfz224_3, hfz224_4⟩ := bz5 BK139.out; have hnb225 := NB113_101.out; have hnc225 := NB101_113.out; have hnb226 := NB113_102.out; have hnc226 := NB102_113.out; have hnb227 := NB113_103.out; have hnc227 := NB103_113.out; have hnb228 := NB113_116.out; have hnc228 := NB116_113.out; obtain ⟨hcz229_0, hcz229_1, hcz229_2, hcz229_3, hcz229_4, hcz229_5, hcz229_6, hcz229_7⟩ := bc8 BK113.out; obtain ⟨hfz229_0, hfz229_1, hfz229_2, hfz229_3, hfz229_4, hfz229_5, hfz229_6, hfz229_7⟩ := bz8 BK113.out) | ((with_reducible refine gate_callee (f := 43) rfl ?_); refine goesL_ (some 113) rfl rfl Try.func43 (by kernel_rfl) rfl #[.agg #[.int .u64 t104, .int .u64 t105, .int .u64 t106, .int .u64 t107, .int .u64 t108, .int .u64 t109, .int .u64 t110, .int .u64 t111], .int .i64 ((rd_T97 l1_1 x106_4).f0)] rfl (by (try simp only [List.map_toArray, List.map_cons, List.map_nil]); first | done | rfl | (simp only [List.length_drop, List.length_take]; rfl)) ?_; (with_reducible refine (bitset_Set_Has.calls t104 t105 t106 t107 t108 t109 t110 t111 ((rd_T97 l1_1 x106_4).f0) false _ A173.out).mono ?_); rintro e w230 ⟨rfl, hb⟩; refine ⟨_, rfl, ?_⟩; have n0_ := Aside0.mk (Kd.S_below (by (with_reducible repeat (first | apply Kd.S_alloc | apply Kd.S_drewN | apply Kd.S_drew)); exact (Kd.S_mono (Kd.S_far (p := ⟨gb139, 4, none⟩) (Kd.S_far (p := ⟨gb139, 3, none⟩) (Kd.S_far (p := ⟨gb139, 2, none⟩) (Kd.S_far (p := ⟨gb139, 1, none⟩) (Kd.S_far (p := ⟨gb139, 0, none⟩) (Kd.S_types HO_117000.out BK139.out (by decide)) (fun _ hk => hk.2) (.int .i64 ((rd_T97 l1_1 x106_4).f0))) (fun _ hk => hk.2) (.int .i64 ((rd_T97 l1_1 x106_4).f1))) (fun _ hk => hk.2) (.int .i64 ((rd_T97 l1_1 x106_4).f2))) (fun _ hk => hk.2) (.int .i64 ((rd_T97 l1_1 x106_4).f3))) (fun _ hk => hk.2) (.int .i64 ((rd_T97 l1_1 x106_4).f4))) (fun _ h_ => h_.1))) hb); have n1_ := Aside0.mk (Kd.R_below (by (with_reducible repeat (first | apply Kd.R_alloc | apply Kd.R_drewN | apply Kd.R_drew)); exact (Kd.R_mono (Kd.R_far (p := ⟨gb139, 4, none⟩) (Kd.R_far (p := ⟨gb139, 3, none⟩) (Kd.R_far (p := ⟨gb139, 2, none⟩) (Kd.R_far (p := ⟨gb139, 1, none⟩) (Kd.R_far (p := ⟨gb139, 0, none⟩) (Kd.R_types HO_117001.out BK139.out (by decide)) (fun _ hk => hk.2) (.int .i64 ((rd_T97 l1_1 x106_4).f0))) (fun _ hk => hk.2) (.int .i64 ((rd_T97 l1_1 x106_4).f1))) (fun _ hk => hk.2) (.int .i64 ((rd_T97 l1_1 x106_4).f2))) (fun _ hk => hk.2) (.int .i64 ((rd_T97 l1_1 x106_4).f3))) (fun _ hk => hk.2) (.int .i64 ((rd_T97 l1_1 x106_4).f4))) (fun _ h_ => h_.1))) hb); have n2_ := Aside0.mk (Kd.R_below (by (with_reducible repeat (first | apply Kd.R_alloc | apply Kd.R_drewN | apply Kd.R_drew)); exact (Kd.R_mono (Kd.R_far (p := ⟨gb139, 4, none⟩) (Kd.R_far (p := ⟨gb139, 3, none⟩) (Kd.R_far (p := ⟨gb139, 2, none⟩) (Kd.R_far (p := ⟨gb139, 1, none⟩) (Kd.R_far (p := ⟨gb139, 0, none⟩) (Kd.R_mono HO_117002.out (fun k_ hk => (⟨hk, hk.2⟩ : _ ∧ k_ ≠ gb139))) (fun _ hk => hk.2) (.int .i64 ((rd_T97 l1_1 x106_4).f0))) (fun _ hk => hk.2) (.int .i64 ((rd_T97 l1_1 x106_4).f1))) (fun _ hk => hk.2) (.int .i64 ((rd_T97 l1_1 x106_4).f2))) (fun _ hk => hk.2) (.int .i64 ((rd_T97 l1_1 x106_4).f3))) (fun _ hk => hk.2) (.int .i64 ((rd_T97 l1_1 x106_4).f4))) (fun _ h_ => h_.1))) hb); have n3_ := Aside0.mk (blk_below (g := gb101) (o := .cells #[.slice A1_0 l1_0.length c1_0, .slice (some ad138) l1_1.length c1_1, .slice A1_2 l1_2.length c1_2] 44 (0, 0)) (by (repeat refine bk ?_); refine blk_far ?_ NB101_139.out _; (repeat refine bk ?_); refine blk_far ?_ NB101_139.out _; (repeat refine bk ?_); refine blk_far ?_ NB101_139.out _; (repeat refine bk ?_); refine blk_far ?_ NB101_139.out _; (repeat refine bk ?_); refine blk_far ?_ NB101_139.out _; (repeat refine bk ?_); exact BK101.out) hb); have n4_ := Aside0.mk (blk_below (g := gb102) (o := .cells #[.int .i64 a2_0] 34 (0, 0)) (by (repeat refine bk ?_); refine blk_far ?_ NB102_139.out _; (repeat refine bk ?_); refine blk_far ?_ NB102_139.out _; (repeat refine bk ?_); refine blk_far ?_ NB102_139.out _; (repeat refine bk ?_); refine blk_far ?_ NB102_139.out _; (repeat refine bk ?_); refine blk_far ?_ NB102_139.out _; (repeat refine bk ?_); exact BK102.out) hb); have n5_ := Aside0.mk (blk_below (g := gb103) (o := .cells #[.slice none 0 0, .slice none 0 0, .slice none 0 0, .slice none 0 0] 49 (0, 0)) (by (repeat refine bk ?_); refine blk_far ?_ NB103_139.out _; (repeat refine bk ?_); refine blk_far ?_ NB103_139.out _; (repeat refine bk ?_); refine blk_far ?_ NB103_139.out _; (repeat refine bk ?_); refine blk_far ?_ NB103_139.out _; (repeat refine bk ?_); refine blk_far ?_ NB103_139.out _; (repeat refine bk ?_); exact BK103.out) hb); have n6_ := Aside0.mk (blk_below (g := gb113) (o := .cells #[.int .u64 t104, .int .u64 t105, .int .u64 t106, .int .u64 t107, .int .u64 t108, .int .u64 t109, .int .u64 t110, .int .u64 t111] 92 (0, 0)) (by (repeat refine bk ?_); refine blk_far ?_ NB113_139.out _; (repeat refine bk ?_); refine blk_far ?_ NB113_139.out _; (repeat refine bk ?_); refine blk_far ?_ NB113_139.out _; (repeat refine bk ?_); refine blk_far ?_ NB113_139.out _; (repeat refine bk ?_); refine blk_far ?_ NB113_139.out _; (repeat refine bk ?_); exact BK113.out) hb); have n7_ := Aside0.mk (blk_below (g := gb116) (o := .cells #[u117000, u117001, u117002, .slice none 0 0] 49 (0, 0)) (by (repeat refine bk ?_); refine blk_far ?_ NB116_139.out _; (repeat refine bk ?_); refine blk_far ?_ NB116_139.out _; (repeat refine bk ?_); refine blk_far ?_ NB116_139.out _; (repeat refine bk ?_); refine blk_far ?_ NB116_139.out _; (repeat refine bk ?_); refine blk_far ?_ NB116_139.out _; (repeat refine bk ?_); exact BK116.out) hb); have n8_ := Aside0.mk (blk_below (g := gb139) (o := .cells #[.int .i64 ((rd_T97 l1_1 x106_4).f0), .int .i64 ((rd_T97 l1_1 x106_4).f1), .int .i64 ((rd_T97 l1_1 x106_4).f2), .int .i64 ((rd_T97 l1_1 x106_4).f3), .int .i64 ((rd_T97 l1_1 x106_4).f4)] 97 (0, 0)) (by (repeat refine bk ?_); refine blk_put (cs := #[.int .i64 ((rd_T97 l1_1 x106_4).f0), .int .i64 ((rd_T97 l1_1 x106_4).f1), .int .i64 ((rd_T97 l1_1 x106_4).f2), .int .i64 ((rd_T97 l1_1 x106_4).f3), .int .i64 0]) ?_ 4 _ rfl; (repeat refine bk ?_); refine blk_put (cs := #[.int .i64 ((rd_T97 l1_1 x106_4).f0), .int .i64 ((rd_T97 l1_1 x106_4).f1), .int .i64 ((rd_T97 l1_1 x106_4).f2), .int .i64 0, .int .i64 0]) ?_ 3 _ rfl; (repeat refine bk ?_); refine blk_put (cs := #[.int .i64 ((rd_T97 l1_1 x106_4).f0), .int .i64 ((rd_T97 l1_1 x106_4).f1), .int .i64 0, .int .i64 0, .int .i64 0]) ?_ 2 _ rfl; (repeat refine bk ?_); refine blk_put (cs := #[.int .i64 ((rd_T97 l1_1 x106_4).f0), .int .i64 0, .int .i64 0, .int .i64 0, .int .i64 0]) ?_ 1 _ rfl; (repeat refine bk ?_); refine blk_put (cs := #[.int .i64 0, .int .i64 0, .int .i64 0, .int .i64 0, .int .i64 0]) ?_ 0 _ rfl; (repeat refine bk ?_); exact BK139.out) hb); have n9_ := Aside0.mk (below_step (by repeat (first | (with_reducible first | exact HB.out | apply below_alloc | apply pw_below_drewN | apply below_drew1 | refine below_set ?_ (Aside0.out (by assumption))) | exact HB.out)) hb); clear HO_117000 HO_117001 HO_117002 BK101 BK102 BK103 BK113 BK116 BK139 HB; have HO_117000 := n0_; have HO_117001 := n1_; have HO_117002 := n2_; have BK101 := n3_; have BK102 := n4_; have BK103 := n5_; have BK113 := n6_; have BK116 := n7_; have BK139 := n8_; have HB := n9_; clear n0_ n1_ n2_ n3_ n4_ n5_ n6_ n7_ n8_ n9_; (try clear hb); (try clear hb2); (try clear hk); (try clear hi)))
                go_roundg k4
                case measure => have := HJ4.out; have := HK2.out; have := HK3.out; have := HK4.out; omega
                case rel => exact ⟨(wrap64 (x106_4 + 1)), (x117002_4), (u117002), (by first | rfl | (simp; done) | (simp [*]; done)), H', ⟨by have := HJ4.out; have := HK2.out; have := HK3.out; have := HK4.out; omega⟩, ⟨by (with_reducible repeat (first | apply Kd.S_alloc | apply Kd.S_drewN | apply Kd.S_drew)); exact HO_117000.out⟩, ⟨by (with_reducible repeat (first | apply Kd.R_alloc | apply Kd.R_drewN | apply Kd.R_drew)); exact HO_117001.out⟩, ⟨by (with_reducible repeat (first | apply Kd.R_alloc | apply Kd.R_drewN | apply Kd.R_drew)); exact Kd.R_mono HO_117002.out (fun _ hk => trivial)⟩, ⟨by (repeat refine bk ?_); exact BK101.out⟩, ⟨by (repeat refine bk ?_); exact BK102.out⟩, ⟨by (repeat refine bk ?_); exact BK103.out⟩, ⟨by (repeat refine bk ?_); exact BK113.out⟩, ⟨by (repeat refine bk ?_); exact BK116.out⟩, ⟨by repeat (first | (with_reducible first | exact HB.out | apply below_alloc | apply pw_below_drewN | apply below_drew1 | refine below_set ?_ (Aside0.out (by assumption))) | exact HB.out)⟩⟩
              ·
               rw [if_neg c172] at H
               exact absurd H (by simp)
             ·
              rw [if_neg c171] at H
              exact absurd H (by simp)
            ·
             rw [if_neg c170] at H
             have c170b0 : decide (x106_4 < (l1_1.length : Int)) = false := decide_eq_false c170
             clear c170
             have H' := Aside0.mk H
             clear H
             have hnb231 := NB101_102.out
             have hnc231 := NB102_101.out
             have hnb232 := NB101_103.out
             have hnc232 := NB103_101.out
             have hnb233 := NB101_113.out
             have hnc233 := NB113_101.out
             have hnb234 := NB101_116.out
             have hnc234 := NB116_101.out
             obtain ⟨hcz235_0, hcz235_1, hcz235_2⟩ := bc3 BK101.out
             obtain ⟨hfz235_0, hfz235_1, hfz235_2⟩ := bz3 BK101.out
             go_wp2
             go_loopg [132] k4 (fun kq v132 w' => ∃ (x132_5 : Int) (x117003_5 : List (S99)) (u117003 : Value), v132 = .int .i64 x132_5 ∧ Aside0 (band_Problem.l4 kq l1_2 (l1_2.length : Int) x132_5 t104 t105 t106 t107 t108 t109 t110 t111 x117000_2 x117001_3 x117002_4 x117003_5 = some (r1, r2, r3, r4, r5)) ∧ Aside0 (kq ≤ k4) ∧ Aside0 (Kd.S k86 86 w' w.heap.size (fun _ => True) u117000 x117000_2) ∧ Aside0 (Kd.R k84 84 w' w.heap.size (fun _ => True) u117001 x117001_3) ∧ Aside0 (Kd.R k97 97 w' w.heap.size (fun _ => True) u117002 x117002_4) ∧ Aside0 (Kd.R k99 99 w' w.heap.size (fun _ => True) u117003 x117003_5) ∧ Aside0 (w'.heap[gb101]? = some (.cells #[(.slice A1_0 l1_0.length c1_0), (.slice A1_1 l1_1.length c1_1), (.slice A1_2 l1_2.length c1_2)] 44 (0, 0))) ∧ Aside0 (w'.heap[gb102]? = some (.cells #[.int .i64 a2_0] 34 (0, 0))) ∧ Aside0 (w'.heap[gb103]? = some (.cells #[(.slice none 0 0), (.slice none 0 0), (.slice none 0 0), (.slice none 0 0)] 49 (0, 0))) ∧ Aside0 (w'.heap[gb113]? = some (.cells #[.int .u64 t104, .int .u64 t105, .int .u64 t106, .int .u64 t107, .int .u64 t108, .int .u64 t109, .int .u64 t110, .int .u64 t111] 92 (0, 0))) ∧ Aside0 (w'.heap[gb116]? = some (.cells #[u117000, u117001, u117002, u117003] 49 (0, 0))) ∧ Aside0 (Below w.heap.size w w'))
             case atStart => exact ⟨(0), (([] : List (S99))), (.slice none 0 0), (by first | rfl | (simp; done) | (simp [*]; done)), H', ⟨Nat.le_refl _⟩, ⟨by (with_reducible repeat (first | apply Kd.S_alloc | apply Kd.S_drewN | apply Kd.S_drew)); exact HO_117000.out⟩, ⟨by (with_reducible repeat (first | apply Kd.R_alloc | apply Kd.R_drewN | apply Kd.R_drew)); exact HO_117001.out⟩, ⟨by (with_reducible repeat (first | apply Kd.R_alloc | apply Kd.R_drewN | apply Kd.R_drew)); exact HO_117002.out⟩, ⟨by first | exact Kd.R_nil _ _ _ _ _ | exact Kd.N_nil _ _ _ _ _ | exact Kd.V_nil _ _ _ _ _ | exact Kd.Q_nil _ _ _ _ _ | exact Kd.S_nil _ _ _ _ _⟩, ⟨by (repeat refine bk ?_); exact BK101.out⟩, ⟨by (repeat refine bk ?_); exact BK102.out⟩, ⟨by (repeat refine bk ?_); exact BK103.out⟩, ⟨by (repeat refine bk ?_); exact BK113.out⟩, ⟨by (repeat refine bk ?_); exact BK116.out⟩, ⟨by repeat (first | (with_reducible first | exact HB.out | apply below_alloc | apply pw_below_drewN | apply below_drew1 | refine below_set ?_ (Aside0.out (by assumption))) | exact HB.out)⟩⟩
             case round =>
              clear H'
              try clear c1
              try clear p1
              try clear q1
              try clear hx1
              try clear c2
              try clear p2
              try clear c3
              try clear c4
              try clear c5
              try clear c6
              try clear p6
              try clear c7
              try clear c8
              try clear c9
              try clear c10
              try clear c11
              try clear p11
              try clear q11
              try clear hx11
              try clear c12
              try clear p12
              try clear q12
              try clear hx12
              try clear c13
              try clear p13
              try clear q13
              try clear hx13
              try clear c14
              try clear c15
              try clear c16
              try clear c17
              try clear c18
              try clear c19
              try clear c20
              try clear c21
              try clear c22
              try clear c23
              try clear c24
              try clear c25
              try clear c28
              try clear c29
              try clear c30
              try clear c33
              try clear c34
              try clear c35
              try clear c36
              try clear c39
              try clear c39b0
              try clear c40
              try clear c40b0
              try clear c41
              try clear c41b0
              try clear c43
              try clear c44
              try clear c45
              try clear c46
              try clear c47
              try clear c50
              try clear c51
              try clear c52
              try clear c53
              try clear c54
              try clear c55
              try clear c58
              try clear c58b0
              try clear c59
              try clear c59b0
              try clear c60
              try clear c60b0
              try clear c62
              try clear c63
              try clear c64
              try clear p64
              try clear c65
              try clear c66
              try clear c67
              try clear c68
              try clear c71
              try clear c72
              try clear c73
              try clear c74
              try clear c75
              try clear c81
              try clear c82
              try clear c83
              try clear c84
              try clear c85
              try clear c86
              try clear c87
              try clear c89
              try clear c90
              try clear c91
              try clear c92
              try clear c93
              try clear c99
              try clear c100
              try clear c101
              try clear c102
              try clear c104
              try clear c104b0
              try clear c105
              try clear c105b0
              try clear c106
              try clear c106b0
              try clear c108
              try clear c110
              try clear c111
              try clear c113
              try clear c114
              try clear c115
              try clear c116
              try clear c117
              try clear p117
              try clear q117
              try clear hx117
              try clear c119
              try clear c120
              try clear p120
              try clear q120
              try clear hx120
              try clear c121
              try clear c122
              try clear c128
              try clear c129
              try clear c130
              try clear p131
              try clear q131
              try clear hx131
              try clear c137
              try clear c138
              try clear p138
              try clear q138
              try clear hx138
              try clear c139
              try clear c140
              try clear c141
              try clear c143
              try clear c144
              try clear c145
              try clear c146
              try clear c153
              try clear c154
              try clear c155
              try clear c156
              try clear c157
              try clear c159
              try clear c160
              try clear c161
              try clear c162
              try clear c165
              try clear c166
              try clear c167
              try clear c168
              try clear c170
              try clear c170b0
              try clear c171
              try clear c171b0
              try clear c172
              try clear c172b0
              try clear c174
              try clear c176
              try clear c177
              try clear c179
              try clear c180
              try clear c181
              try clear c182
              try clear c183
              try clear c185
              try clear c186
              try clear c187
              try clear c188
              try clear c194
              try clear c195
              try clear c196
              try clear c203
              try clear c204
              try clear c205
              try clear c206
              try clear c207
              try clear c209
              try clear c210
              try clear c211
              try clear c212
              try clear c219
              try clear c220
              try clear c221
              try clear c222
              try clear c223
              try clear c225
              try clear c226
              try clear c227
              try clear c228
              try clear c231
              try clear c232
              try clear c233
              try clear c234
              try clear hcz103_0
              try clear hcz103_1
              try clear hcz103_2
              try clear hcz118_0
              try clear hcz118_1
              try clear hcz118_2
              try clear hcz118_3
              try clear hcz118_4
              try clear hcz123_0
              try clear hcz123_1
              try clear hcz123_2
              try clear hcz123_3
              try clear hcz123_4
              try clear hcz123_5
              try clear hcz123_6
              try clear hcz123_7
              try clear hcz125_0
              try clear hcz125_1
              try clear hcz125_2
              try clear hcz125_3
              try clear hcz125_4
              try clear hcz125_5
              try clear hcz125_6
              try clear hcz125_7
              try clear hcz126_0
              try clear hcz126_1
              try clear hcz126_2
              try clear hcz126_3
              try clear hcz126_4
              try clear hcz131_0
              try clear hcz131_1
              try clear hcz131_2
              try clear hcz131_3
              try clear hcz132_0
              try clear hcz132_1
              try clear hcz132_2
              try clear hcz132_3
              try clear hcz132_4
              try clear hcz135_0
              try clear hcz135_1
              try clear hcz135_2
              try clear hcz135_3
              try clear hcz142_0
              try clear hcz142_1
              try clear hcz142_2
              try clear hcz142_3
              try clear hcz142_4
              try clear hcz147_0
              try clear hcz147_1
              try clear hcz147_2
              try clear hcz147_3
              try clear hcz147_4
              try clear hcz147_5
              try clear hcz147_6
              try clear hcz147_7
              try clear hcz149_0
              try clear hcz149_1
              try clear hcz149_2
              try clear hcz149_3
              try clear hcz149_4
              try clear hcz149_5
              try clear hcz149_6
              try clear hcz149_7
              try clear hcz14_0
              try clear hcz14_1
              try clear hcz14_2
              try clear hcz14_3
              try clear hcz14_4
              try clear hcz14_5
              try clear hcz14_6
              try clear hcz14_7
              try clear hcz150_0
              try clear hcz150_1
              try clear hcz150_2
              try clear hcz150_3
              try clear hcz150_4
              try clear hcz158_0
              try clear hcz158_1
              try clear hcz158_2
              try clear hcz158_3
              try clear hcz158_4
              try clear hcz163_0
              try clear hcz163_1
              try clear hcz163_2
              try clear hcz163_3
              try clear hcz163_4
              try clear hcz163_5
              try clear hcz163_6
              try clear hcz163_7
              try clear hcz169_0
              try clear hcz169_1
              try clear hcz169_2
              try clear hcz184_0
              try clear hcz184_1
              try clear hcz184_2
              try clear hcz184_3
              try clear hcz184_4
              try clear hcz189_0
              try clear hcz189_1
              try clear hcz189_2
              try clear hcz189_3
              try clear hcz189_4
              try clear hcz189_5
              try clear hcz189_6
              try clear hcz189_7
              try clear hcz191_0
              try clear hcz191_1
              try clear hcz191_2
              try clear hcz191_3
              try clear hcz191_4
              try clear hcz191_5
              try clear hcz191_6
              try clear hcz191_7
              try clear hcz192_0
              try clear hcz192_1
              try clear hcz192_2
              try clear hcz192_3
              try clear hcz192_4
              try clear hcz197_0
              try clear hcz197_1
              try clear hcz197_2
              try clear hcz197_3
              try clear hcz198_0
              try clear hcz198_1
              try clear hcz198_2
              try clear hcz198_3
              try clear hcz198_4
              try clear hcz201_0
              try clear hcz201_1
              try clear hcz201_2
              try clear hcz201_3
              try clear hcz208_0
              try clear hcz208_1
              try clear hcz208_2
              try clear hcz208_3
              try clear hcz208_4
              try clear hcz213_0
              try clear hcz213_1
              try clear hcz213_2
              try clear hcz213_3
              try clear hcz213_4
              try clear hcz213_5
              try clear hcz213_6
              try clear hcz213_7
              try clear hcz215_0
              try clear hcz215_1
              try clear hcz215_2
              try clear hcz215_3
              try clear hcz215_4
              try clear hcz215_5
              try clear hcz215_6
              try clear hcz215_7
              try clear hcz216_0
              try clear hcz216_1
              try clear hcz216_2
              try clear hcz216_3
              try clear hcz216_4
              try clear hcz224_0
              try clear hcz224_1
              try clear hcz224_2
              try clear hcz224_3
              try clear hcz224_4
              try clear hcz229_0
              try clear hcz229_1
              try clear hcz229_2
              try clear hcz229_3
              try clear hcz229_4
              try clear hcz229_5
              try clear hcz229_6
              try clear hcz229_7
              try clear hcz22_0
              try clear hcz22_1
              try clear hcz22_2
              try clear hcz235_0
              try clear hcz235_1
              try clear hcz235_2
              try clear hcz26_0
              try clear hcz31_0
              try clear hcz31_1
              try clear hcz31_2
              try clear hcz37_0
              try clear hcz37_1
              try clear hcz37_2
              try clear hcz37_3
              try clear hcz48_0
              try clear hcz48_1
              try clear hcz56_0
              try clear hcz56_1
              try clear hcz57_0
              try clear hcz57_1
              try clear hcz69_0
              try clear hcz76_0
              try clear hcz76_1
              try clear hcz80_0
              try clear hcz80_1
              try clear hcz88_0
              try clear hcz88_1
              try clear hcz88_2
              try clear hcz88_3
              try clear hcz94_0
              try clear hcz94_1
              try clear hcz98_0
              try clear hcz98_1
              try clear hcz98_2
              try clear hcz98_3
              try clear hfz103_0
              try clear hfz103_1
              try clear hfz103_2
              try clear hfz118_0
              try clear hfz118_1
              try clear hfz118_2
              try clear hfz118_3
              try clear hfz118_4
              try clear hfz123_0
              try clear hfz123_1
              try clear hfz123_2
              try clear hfz123_3
              try clear hfz123_4
              try clear hfz123_5
              try clear hfz123_6
              try clear hfz123_7
              try clear hfz125_0
              try clear hfz125_1
              try clear hfz125_2
              try clear hfz125_3
              try clear hfz125_4
              try clear hfz125_5
              try clear hfz125_6
              try clear hfz125_7
              try clear hfz126_0
              try clear hfz126_1
              try clear hfz126_2
              try clear hfz126_3
              try clear hfz126_4
              try clear hfz131_0
              try clear hfz131_1
              try clear hfz131_2
              try clear hfz131_3
              try clear hfz132_0
              try clear hfz132_1
              try clear hfz132_2
              try clear hfz132_3
              try clear hfz132_4
              try clear hfz135_0
              try clear hfz135_1
              try clear hfz135_2
              try clear hfz135_3
              try clear hfz142_0
              try clear hfz142_1
              try clear hfz142_2
              try clear hfz142_3
              try clear hfz142_4
              try clear hfz147_0
              try clear hfz147_1
              try clear hfz147_2
              try clear hfz147_3
              try clear hfz147_4
              try clear hfz147_5
              try clear hfz147_6
              try clear hfz147_7
              try clear hfz149_0
              try clear hfz149_1
              try clear hfz149_2
              try clear hfz149_3
              try clear hfz149_4
              try clear hfz149_5
              try clear hfz149_6
              try clear hfz149_7
              try clear hfz14_0
              try clear hfz14_1
              try clear hfz14_2
              try clear hfz14_3
              try clear hfz14_4
              try clear hfz14_5
              try clear hfz14_6
              try clear hfz14_7
              try clear hfz150_0
              try clear hfz150_1
              try clear hfz150_2
              try clear hfz150_3
              try clear hfz150_4
              try clear hfz158_0
              try clear hfz158_1
              try clear hfz158_2
              try clear hfz158_3
              try clear hfz158_4
              try clear hfz163_0
              try clear hfz163_1
              try clear hfz163_2
              try clear hfz163_3
              try clear hfz163_4
              try clear hfz163_5
              try clear hfz163_6
              try clear hfz163_7
              try clear hfz169_0
              try clear hfz169_1
              try clear hfz169_2
              try clear hfz184_0
              try clear hfz184_1
              try clear hfz184_2
              try clear hfz184_3
              try clear hfz184_4
              try clear hfz189_0
              try clear hfz189_1
              try clear hfz189_2
              try clear hfz189_3
              try clear hfz189_4
              try clear hfz189_5
              try clear hfz189_6
              try clear hfz189_7
              try clear hfz191_0
              try clear hfz191_1
              try clear hfz191_2
              try clear hfz191_3
              try clear hfz191_4
              try clear hfz191_5
              try clear hfz191_6
              try clear hfz191_7
              try clear hfz192_0
              try clear hfz192_1
              try clear hfz192_2
              try clear hfz192_3
              try clear hfz192_4
              try clear hfz197_0
              try clear hfz197_1
              try clear hfz197_2
              try clear hfz197_3
              try clear hfz198_0
              try clear hfz198_1
              try clear hfz198_2
              try clear hfz198_3
              try clear hfz198_4
              try clear hfz201_0
              try clear hfz201_1
              try clear hfz201_2
              try clear hfz201_3
              try clear hfz208_0
              try clear hfz208_1
              try clear hfz208_2
              try clear hfz208_3
              try clear hfz208_4
              try clear hfz213_0
              try clear hfz213_1
              try clear hfz213_2
              try clear hfz213_3
              try clear hfz213_4
              try clear hfz213_5
              try clear hfz213_6
              try clear hfz213_7
              try clear hfz215_0
              try clear hfz215_1
              try clear hfz215_2
              try clear hfz215_3
              try clear hfz215_4
              try clear hfz215_5
              try clear hfz215_6
              try clear hfz215_7
              try clear hfz216_0
              try clear hfz216_1
              try clear hfz216_2
              try clear hfz216_3
              try clear hfz216_4
              try clear hfz224_0
              try clear hfz224_1
              try clear hfz224_2
              try clear hfz224_3
              try clear hfz224_4
              try clear hfz229_0
              try clear hfz229_1
              try clear hfz229_2
              try clear hfz229_3
              try clear hfz229_4
              try clear hfz229_5
              try clear hfz229_6
              try clear hfz229_7
              try clear hfz22_0
              try clear hfz22_1
              try clear hfz22_2
              try clear hfz235_0
              try clear hfz235_1
              try clear hfz235_2
              try clear hfz26_0
              try clear hfz31_0
              try clear hfz31_1
              try clear hfz31_2
              try clear hfz37_0
              try clear hfz37_1
              try clear hfz37_2
              try clear hfz37_3
              try clear hfz48_0
              try clear hfz48_1
              try clear hfz56_0
              try clear hfz56_1
              try clear hfz57_0
              try clear hfz57_1
              try clear hfz69_0
              try clear hfz76_0
              try clear hfz76_1
              try clear hfz80_0
              try clear hfz80_1
              try clear hfz88_0
              try clear hfz88_1
              try clear hfz88_2
              try clear hfz88_3
              try clear hfz94_0
              try clear hfz94_1
              try clear hfz98_0
              try clear hfz98_1
              try clear hfz98_2
              try clear hfz98_3
              try clear hx117_0
              try clear hx117_1
              try clear hx120_0
              try clear hx131_0
              try clear hx131_1
              try clear hx131_2
              try clear hx131_3
              try clear hx131_4
              try clear hx138_0
              try clear hx138_1
              try clear hx138_2
              try clear hx138_3
              try clear hx138_4
              try clear p1
              try clear p11
              try clear p117
              try clear p12
              try clear p120
              try clear p13
              try clear p131
              try clear p138
              try clear p2
              try clear p6
              try clear p64
              try clear q1
              try clear q11
              try clear q117
              try clear q12
              try clear q120
              try clear q13
              try clear q131
              try clear q138
              obtain ⟨x132_5, x117003_5, u117003, rfl, HA, HK5, HO_117000, HO_117001, HO_117002, HO_117003, BK101, BK102, BK103, BK113, BK116, HB⟩ := hrel
              cases gk with
              | zero => exact absurd HA.out (by simp [band_Problem.l4])
              | succ k5 =>
               have H := HA.out
               clear HA
               simp only [band_Problem.l4] at H
               by_cases c236 : x132_5 < (l1_2.length : Int)
               ·
                rw [if_pos c236] at H
                have c236b0 : decide (x132_5 < (l1_2.length : Int)) = true := decide_eq_true c236
                clear c236
                by_cases c237 : 0 ≤ x132_5
                ·
                 rw [if_pos c237] at H
                 have c237b0 : decide (0 ≤ x132_5) = true := decide_eq_true c237
                 clear c237
                 by_cases c238 : x132_5 < (l1_2.length : Int)
                 ·
                  rw [if_pos c238] at H
                  have c238b0 : decide (x132_5 < (l1_2.length : Int)) = true := decide_eq_true c238
                  clear c238
                  replace H := Option.bind_eq_some_iff.mp H
                  obtain ⟨t147, A2390, H⟩ := H
                  replace H : (if t147 = true then (if x117003_5.length < 4398046511104 then (band_Problem.l4 k5 l1_2 (l1_2.length : Int) (wrap64 (x132_5 + 1)) t104 t105 t106 t107 t108 t109 t110 t111 x117000_2 x117001_3 x117002_4 (x117003_5 ++ [(⟨(rd_T99 l1_2 x132_5).f0, (rd_T99 l1_2 x132_5).f1, (rd_T99 l1_2 x132_5).f2, (rd_T99 l1_2 x132_5).f3⟩ : S99)])) else (none)) else (band_Problem.l4 k5 l1_2 (l1_2.length : Int) (wrap64 (x132_5 + 1)) t104 t105 t106 t107 t108 t109 t110 t111 x117000_2 x117001_3 x117002_4 x117003_5)) = some (r1, r2, r3, r4, r5) := H
                  have A239 := Aside0.mk A2390
                  clear A2390
                  by_cases c240 : t147 = true
                  ·
                   subst c240
                   have H1 : (if x117003_5.length < 4398046511104 then (band_Problem.l4 k5 l1_2 (l1_2.length : Int) (wrap64 (x132_5 + 1)) t104 t105 t106 t107 t108 t109 t110 t111 x117000_2 x117001_3 x117002_4 (x117003_5 ++ [(⟨(rd_T99 l1_2 x132_5).f0, (rd_T99 l1_2 x132_5).f1, (rd_T99 l1_2 x132_5).f2, (rd_T99 l1_2 x132_5).f3⟩ : S99)])) else (none)) = some (r1, r2, r3, r4, r5) := by rw [if_pos rfl] at H; exact H
                   clear H
                   have H := H1
                   clear H1
                   by_cases c241 : x117003_5.length < 4398046511104
                   ·
                    rw [if_pos c241] at H
                    have LMc241 := Aside0.mk c241
                    clear c241
                    obtain ⟨y148, hy148⟩ : ∃ y_ : List (S99), y_ = (x117003_5 ++ [(⟨(rd_T99 l1_2 x132_5).f0, (rd_T99 l1_2 x132_5).f1, (rd_T99 l1_2 x132_5).f2, (rd_T99 l1_2 x132_5).f3⟩ : S99)]) := ⟨_, rfl⟩
                    replace H : (band_Problem.l4 k5 l1_2 (l1_2.length : Int) (wrap64 (x132_5 + 1)) t104 t105 t106 t107 t108 t109 t110 t111 x117000_2 x117001_3 x117002_4 y148) = some (r1, r2, r3, r4, r5) := by first | (rw [hy148]; with_reducible exact H) | (have H2_ := (Option.bind_some _ _).symm.trans H; rw [hy148]; with_reducible exact H2_) | (have H2_ := (Option.bind_some _ _).symm.trans H; with_reducible exact H2_) | with_reducible exact H | (rw [hy148]; exact H) | exact H
                    have Ny148 := Aside0.mk hy148
                    clear hy148
                    have H' := Aside0.mk H
                    clear H
                    have p145 : 0 ≤ (x132_5 : Int) := of_decide_eq_true (by first | (with_reducible assumption) | assumption)
                    have q145 : x132_5 < (l1_2.length : Int) := of_decide_eq_true (by first | (with_reducible assumption) | assumption)
                    obtain ⟨ad145, e145, hx145_0, hx145_1, hx145_2, hx145_3⟩ := at_T99 HR1_2.out x132_5 p145 q145
                    cases e145
                    replace hx145_0 := (HB.out.cell (World.block_lt_of_cell? w _ hx145_0)).trans hx145_0
                    replace hx145_1 := (HB.out.cell (World.block_lt_of_cell? w _ hx145_1)).trans hx145_1
                    replace hx145_2 := (HB.out.cell (World.block_lt_of_cell? w _ hx145_2)).trans hx145_2
                    replace hx145_3 := (HB.out.cell (World.block_lt_of_cell? w _ hx145_3)).trans hx145_3
                    replace p145 := eq_true p145
                    replace q145 := eq_true q145
                    go_wp2_with (first | ((with_reducible refine gate_dst (N := 23) rfl ?_); refine box_event ?hg (N := 23) ?hd (cs := #[.int .i64 0, .int .i64 0, .int .i64 0, .int .i64 0]) (t := 99) ?hr ?_; (case hd => rfl); (case hg => rfl); (case hr => first | (go_simp; done) | (go_simp; rfl)); intro gb146 hg w242 hbox hb; have n0_ := Aside0.mk (Kd.S_below (by (with_reducible repeat (first | apply Kd.S_alloc | apply Kd.S_drewN | apply Kd.S_drew)); exact HO_117000.out) hb); have n1_ := Aside0.mk (Kd.R_below (by (with_reducible repeat (first | apply Kd.R_alloc | apply Kd.R_drewN | apply Kd.R_drew)); exact HO_117001.out) hb); have n2_ := Aside0.mk (Kd.R_below (by (with_reducible repeat (first | apply Kd.R_alloc | apply Kd.R_drewN | apply Kd.R_drew)); exact HO_117002.out) hb); have n3_ := Aside0.mk (Kd.R_below (Kd.R_elderB (by (with_reducible repeat (first | apply Kd.R_alloc | apply Kd.R_drewN | apply Kd.R_drew)); exact HO_117003.out) gb146 (Nat.le_of_eq hg.symm)) hb); have n4_ := Aside0.mk (bb BK101.out hb); have n5_ := Aside0.mk (bb BK102.out hb); have n6_ := Aside0.mk (bb BK103.out hb); have n7_ := Aside0.mk (bb BK113.out hb); have n8_ := Aside0.mk (bb BK116.out hb); have n9_ := Aside0.mk (below_step (by repeat (first | (with_reducible first | exact HB.out | apply below_alloc | apply pw_below_drewN | apply below_drew1 | refine below_set ?_ (Aside0.out (by assumption))) | exact HB.out)) hb); have n10_ := Aside0.mk (hbox); have n11_ := Aside0.mk ((by rw [hg]; exact (below_size (by repeat (first | (with_reducible first | exact HB.out | apply below_alloc | apply pw_below_drewN | apply below_drew1 | refine below_set ?_ (Aside0.out (by assumption))) | exact HB.out))) : w.heap.size ≤ gb146)); have n12_ := Aside0.mk ((by rw [hg]; exact (below_size (by repeat (first | (with_reducible first | exact HB.out | apply below_alloc | apply pw_below_drewN | apply below_drew1 | refine below_set ?_ (Aside0.out (by assumption))) | exact HB.out))) : w.heap.size ≤ gb146)); have n13_ := Aside0.mk ((by rw [hg]; exact Nat.ne_of_lt (bl BK101.out) : gb101 ≠ gb146)); have n14_ := Aside0.mk ((by rw [hg]; exact Nat.ne_of_gt (bl BK101.out) : gb146 ≠ gb101)); have n15_ := Aside0.mk ((by rw [hg]; exact Nat.ne_of_lt (bl BK102.out) : gb102 ≠ gb146)); have n16_ := Aside0.mk ((by rw [hg]; exact Nat.ne_of_gt (bl BK102.out) : gb146 ≠ gb102)); have n17_ := Aside0.mk ((by rw [hg]; exact Nat.ne_of_lt (bl BK103.out) : gb103 ≠ gb146)); have n18_ := Aside0.mk ((by rw [hg]; exact Nat.ne_of_gt (bl BK103.out) : gb146 ≠ gb103)); have n19_ := Aside0.mk ((by rw [hg]; exact Nat.ne_of_lt (bl BK113.out) : gb113 ≠ gb146)); have n20_ := Aside0.mk ((by rw [hg]; exact Nat.ne_of_gt (bl BK113.out) : gb146 ≠ gb113)); have n21_ := Aside0.mk ((by rw [hg]; exact Nat.ne_of_lt (bl BK116.out) : gb116 ≠ gb146)); have n22_ := Aside0.mk ((by rw [hg]; exact Nat.ne_of_gt (bl BK116.out) : gb146 ≠ gb116)); clear HO_117000 HO_117001 HO_117002 HO_117003 BK101 BK102 BK103 BK113 BK116 HB; have HO_117000 := n0_; have HO_117001 := n1_; have HO_117002 := n2_; have HO_117003 := n3_; have BK101 := n4_; have BK102 := n5_; have BK103 := n6_; have BK113 := n7_; have BK116 := n8_; have HB := n9_; have BK146 := n10_; have GW146 := n11_; have GE146 := n12_; have NB101_146 := n13_; have NB146_101 := n14_; have NB102_146 := n15_; have NB146_102 := n16_; have NB103_146 := n17_; have NB146_103 := n18_; have NB113_146 := n19_; have NB146_113 := n20_; have NB116_146 := n21_; have NB146_116 := n22_; clear n0_ n1_ n2_ n3_ n4_ n5_ n6_ n7_ n8_ n9_ n10_ n11_ n12_ n13_ n14_ n15_ n16_ n17_ n18_ n19_ n20_ n21_ n22_; clear hb hbox hg; have hnb243 := NB146_101.out; have hnc243 := NB101_146.out; have hnb244 := NB146_102.out; have hnc244 := NB102_146.out; have hnb245 := NB146_103.out; have hnc245 := NB103_146.out; have hnb246 := NB146_113.out; have hnc246 := NB113_146.out; have hnb247 := NB146_116.out; have hnc247 := NB116_146.out; obtain ⟨hcz248_0, hcz248_1, hcz248_2, hcz248_3⟩ := bc4 BK146.out; obtain ⟨hfz248_0, hfz248_1, hfz248_2, hfz248_3⟩ := bz4 BK146.out; have hnb249 := NB113_101.out; have hnc249 := NB101_113.out; have hnb250 := NB113_102.out; have hnc250 := NB102_113.out; have hnb251 := NB113_103.out; have hnc251 := NB103_113.out; have hnb252 := NB113_116.out; have hnc252 := NB116_113.out; obtain ⟨hcz253_0, hcz253_1, hcz253_2, hcz253_3, hcz253_4, hcz253_5, hcz253_6, hcz253_7⟩ := bc8 BK113.out; obtain ⟨hfz253_0, hfz253_1, hfz253_2, hfz253_3, hfz253_4, hfz253_5, hfz253_6, hfz253_7⟩ := bz8 BK113.out) | ((with_reducible refine gate_callee (f := 43) rfl ?_); refine goesL_ (some 139) rfl rfl Try.func43 (by kernel_rfl) rfl #[.agg #[.int .u64 t104, .int .u64 t105, .int .u64 t106, .int .u64 t107, .int .u64 t108, .int .u64 t109, .int .u64 t110, .int .u64 t111], .int .i64 ((rd_T99 l1_2 x132_5).f0)] rfl (by (try simp only [List.map_toArray, List.map_cons, List.map_nil]); first | done | rfl | (simp only [List.length_drop, List.length_take]; rfl)) ?_; (with_reducible refine (bitset_Set_Has.calls t104 t105 t106 t107 t108 t109 t110 t111 ((rd_T99 l1_2 x132_5).f0) true _ A239.out).mono ?_); rintro e w254 ⟨rfl, hb⟩; refine ⟨_, rfl, ?_⟩; have n0_ := Aside0.mk (Kd.S_below (by (with_reducible repeat (first | apply Kd.S_alloc | apply Kd.S_drewN | apply Kd.S_drew)); exact (Kd.S_mono (Kd.S_far (p := ⟨gb146, 3, none⟩) (Kd.S_far (p := ⟨gb146, 2, none⟩) (Kd.S_far (p := ⟨gb146, 1, none⟩) (Kd.S_far (p := ⟨gb146, 0, none⟩) (Kd.S_types HO_117000.out BK146.out (by decide)) (fun _ hk => hk.2) (.int .i64 ((rd_T99 l1_2 x132_5).f0))) (fun _ hk => hk.2) (.int .i64 ((rd_T99 l1_2 x132_5).f1))) (fun _ hk => hk.2) (.int .i64 ((rd_T99 l1_2 x132_5).f2))) (fun _ hk => hk.2) (.int .i64 ((rd_T99 l1_2 x132_5).f3))) (fun _ h_ => h_.1))) hb); have n1_ := Aside0.mk (Kd.R_below (by (with_reducible repeat (first | apply Kd.R_alloc | apply Kd.R_drewN | apply Kd.R_drew)); exact (Kd.R_mono (Kd.R_far (p := ⟨gb146, 3, none⟩) (Kd.R_far (p := ⟨gb146, 2, none⟩) (Kd.R_far (p := ⟨gb146, 1, none⟩) (Kd.R_far (p := ⟨gb146, 0, none⟩) (Kd.R_types HO_117001.out BK146.out (by decide)) (fun _ hk => hk.2) (.int .i64 ((rd_T99 l1_2 x132_5).f0))) (fun _ hk => hk.2) (.int .i64 ((rd_T99 l1_2 x132_5).f1))) (fun _ hk => hk.2) (.int .i64 ((rd_T99 l1_2 x132_5).f2))) (fun _ hk => hk.2) (.int .i64 ((rd_T99 l1_2 x132_5).f3))) (fun _ h_ => h_.1))) hb); have n2_ := Aside0.mk (Kd.R_below (by (with_reducible repeat (first | apply Kd.R_alloc | apply Kd.R_drewN | apply Kd.R_drew)); exact (Kd.R_mono (Kd.R_far (p := ⟨gb146, 3, none⟩) (Kd.R_far (p := ⟨gb146, 2, none⟩) (Kd.R_far (p := ⟨gb146, 1, none⟩) (Kd.R_far (p := ⟨gb146, 0, none⟩) (Kd.R_types HO_117002.out BK146.out (by decide)) (fun _ hk => hk.2) (.int .i64 ((rd_T99 l1_2 x132_5).f0))) (fun _ hk => hk.2) (.int .i64 ((rd_T99 l1_2 x132_5).f1))) (fun _ hk => hk.2) (.int .i64 ((rd_T99 l1_2 x132_5).f2))) (fun _ hk => hk.2) (.int .i64 ((rd_T99 l1_2 x132_5).f3))) (fun _ h_ => h_.1))) hb); have n3_ := Aside0.mk (Kd.R_below (by (with_reducible repeat (first | apply Kd.R_alloc | apply Kd.R_drewN | apply Kd.R_drew)); exact (Kd.R_mono (Kd.R_far (p := ⟨gb146, 3, none⟩) (Kd.R_far (p := ⟨gb146, 2, none⟩) (Kd.R_far (p := ⟨gb146, 1, none⟩) (Kd.R_far (p := ⟨gb146, 0, none⟩) (Kd.R_mono HO_117003.out (fun k_ hk => (⟨hk, hk.2⟩ : _ ∧ k_ ≠ gb146))) (fun _ hk => hk.2) (.int .i64 ((rd_T99 l1_2 x132_5).f0))) (fun _ hk => hk.2) (.int .i64 ((rd_T99 l1_2 x132_5).f1))) (fun _ hk => hk.2) (.int .i64 ((rd_T99 l1_2 x132_5).f2))) (fun _ hk => hk.2) (.int .i64 ((rd_T99 l1_2 x132_5).f3))) (fun _ h_ => h_.1))) hb); have n4_ := Aside0.mk (blk_below (g := gb101) (o := .cells #[.slice A1_0 l1_0.length c1_0, .slice A1_1 l1_1.length c1_1, .slice (some ad145) l1_2.length c1_2] 44 (0, 0)) (by (repeat refine bk ?_); refine blk_far ?_ NB101_146.out _; (repeat refine bk ?_); refine blk_far ?_ NB101_146.out _; (repeat refine bk ?_); refine blk_far ?_ NB101_146.out _; (repeat refine bk ?_); refine blk_far ?_ NB101_146.out _; (repeat refine bk ?_); exact BK101.out) hb); have n5_ := Aside0.mk (blk_below (g := gb102) (o := .cells #[.int .i64 a2_0] 34 (0, 0)) (by (repeat refine bk ?_); refine blk_far ?_ NB102_146.out _; (repeat refine bk ?_); refine blk_far ?_ NB102_146.out _; (repeat refine bk ?_); refine blk_far ?_ NB102_146.out _; (repeat refine bk ?_); refine blk_far ?_ NB102_146.out _; (repeat refine bk ?_); exact BK102.out) hb); have n6_ := Aside0.mk (blk_below (g := gb103) (o := .cells #[.slice none 0 0, .slice none 0 0, .slice none 0 0, .slice none 0 0] 49 (0, 0)) (by (repeat refine bk ?_); refine blk_far ?_ NB103_146.out _; (repeat refine bk ?_); refine blk_far ?_ NB103_146.out _; (repeat refine bk ?_); refine blk_far ?_ NB103_146.out _; (repeat refine bk ?_); refine blk_far ?_ NB103_146.out _; (repeat refine bk ?_); exact BK103.out) hb); have n7_ := Aside0.mk (blk_below (g := gb113) (o := .cells #[.int .u64 t104, .int .u64 t105, .int .u64 t106, .int .u64 t107, .int .u64 t108, .int .u64 t109, .int .u64 t110, .int .u64 t111] 92 (0, 0)) (by (repeat refine bk ?_); refine blk_far ?_ NB113_146.out _; (repeat refine bk ?_); refine blk_far ?_ NB113_146.out _; (repeat refine bk ?_); refine blk_far ?_ NB113_146.out _; (repeat refine bk ?_); refine blk_far ?_ NB113_146.out _; (repeat refine bk ?_); exact BK113.out) hb); have n8_ := Aside0.mk (blk_below (g := gb116) (o := .cells #[u117000, u117001, u117002, u117003] 49 (0, 0)) (by (repeat refine bk ?_); refine blk_far ?_ NB116_146.out _; (repeat refine bk ?_); refine blk_far ?_ NB116_146.out _; (repeat refine bk ?_); refine blk_far ?_ NB116_146.out _; (repeat refine bk ?_); refine blk_far ?_ NB116_146.out _; (repeat refine bk ?_); exact BK116.out) hb); have n9_ := Aside0.mk (blk_below (g := gb146) (o := .cells #[.int .i64 ((rd_T99 l1_2 x132_5).f0), .int .i64 ((rd_T99 l1_2 x132_5).f1), .int .i64 ((rd_T99 l1_2 x132_5).f2), .int .i64 ((rd_T99 l1_2 x132_5).f3)] 99 (0, 0)) (by (repeat refine bk ?_); refine blk_put (cs := #[.int .i64 ((rd_T99 l1_2 x132_5).f0), .int .i64 ((rd_T99 l1_2 x132_5).f1), .int .i64 ((rd_T99 l1_2 x132_5).f2), .int .i64 0]) ?_ 3 _ rfl; (repeat refine bk ?_); refine blk_put (cs := #[.int .i64 ((rd_T99 l1_2 x132_5).f0), .int .i64 ((rd_T99 l1_2 x132_5).f1), .int .i64 0, .int .i64 0]) ?_ 2 _ rfl; (repeat refine bk ?_); refine blk_put (cs := #[.int .i64 ((rd_T99 l1_2 x132_5).f0), .int .i64 0, .int .i64 0, .int .i64 0]) ?_ 1 _ rfl; (repeat refine bk ?_); refine blk_put (cs := #[.int .i64 0, .int .i64 0, .int .i64 0, .int .i64 0]) ?_ 0 _ rfl; (repeat refine bk ?_); exact BK146.out) hb); have n10_ := Aside0.mk (below_step (by repeat (first | (with_reducible first | exact HB.out | apply below_alloc | apply pw_below_drewN | apply below_drew1 | refine below_set ?_ (Aside0.out (by assumption))) | exact HB.out)) hb); clear HO_117000 HO_117001 HO_117002 HO_117003 BK101 BK102 BK103 BK113 BK116 BK146 HB; have HO_117000 := n0_; have HO_117001 := n1_; have HO_117002 := n2_; have HO_117003 := n3_; have BK101 := n4_; have BK102 := n5_; have BK103 := n6_; have BK113 := n7_; have BK116 := n8_; have BK146 := n9_; have HB := n10_; clear n0_ n1_ n2_ n3_ n4_ n5_ n6_ n7_ n8_ n9_ n10_; (try clear hb); (try clear hb2); (try clear hk); (try clear hi); have hnb255 := NB116_101.out; have hnc255 := NB101_116.out; have hnb256 := NB116_102.out; have hnc256 := NB102_116.out; have hnb257 := NB116_103.out; have hnc257 := NB103_116.out; obtain ⟨hcz258_0, hcz258_1, hcz258_2, hcz258_3⟩ := bc4 BK116.out; obtain ⟨hfz258_0, hfz258_1, hfz258_2, hfz258_3⟩ := bz4 BK116.out; obtain ⟨hcz259_0, hcz259_1, hcz259_2, hcz259_3⟩ := bc4 BK146.out; obtain ⟨hfz259_0, hfz259_1, hfz259_2, hfz259_3⟩ := bz4 BK146.out) | ((with_reducible refine gate_builtin (b := .append) (xs := #[.tmp 142, .tmp 144]) rfl ?_); at_builtin; refine Kd.R_append k99 (w0 := w) w.heap.size rfl (.tmp 142) (.tmp 144) 42 99 (.agg #[(.int .i64 0), (.int .i64 0), (.int .i64 0), (.int .i64 0)]) 32 rfl Try.underlying42 info99 rfl (by decide) (by omega) u117003 x117003_5 (⟨(rd_T99 l1_2 x132_5).f0, (rd_T99 l1_2 x132_5).f1, (rd_T99 l1_2 x132_5).f2, (rd_T99 l1_2 x132_5).f3⟩ : S99) [.int .i64 ((rd_T99 l1_2 x132_5).f0), .int .i64 ((rd_T99 l1_2 x132_5).f1), .int .i64 ((rd_T99 l1_2 x132_5).f2), .int .i64 ((rd_T99 l1_2 x132_5).f3)] (fun k_ => k_ ≠ gb146) (fun _ => False) rfl rfl ?aP (fun _ hk => hk.elim) ?aF ?aO ?aB ?aS ?aL ?_; (case aP => exact k99_mkM _ _ _ (⟨(rd_T99 l1_2 x132_5).f0, (rd_T99 l1_2 x132_5).f1, (rd_T99 l1_2 x132_5).f2, (rd_T99 l1_2 x132_5).f3⟩ : S99)); (case aB => exact (by repeat (first | (with_reducible first | exact HB.out | apply below_alloc | apply pw_below_drewN | apply below_drew1 | refine below_set ?_ (Aside0.out (by assumption))) | exact HB.out))); (case aF => exact (fun k_ hk => Kd.freshB (g := gb146) (o := .cells #[.int .i64 ((rd_T99 l1_2 x132_5).f0), .int .i64 ((rd_T99 l1_2 x132_5).f1), .int .i64 ((rd_T99 l1_2 x132_5).f2), .int .i64 ((rd_T99 l1_2 x132_5).f3)] 99 (0, 0)) (by (repeat refine bk ?_); exact BK146.out) k_ hk)); (case aO => exact (by (with_reducible repeat (first | apply Kd.R_alloc | apply Kd.R_drewN | apply Kd.R_drew)); exact Kd.R_mono HO_117003.out (fun _ hk => hk.2))); (case aS => exact (below_size (by repeat (first | (with_reducible first | exact HB.out | apply below_alloc | apply pw_below_drewN | apply below_drew1 | refine below_set ?_ (Aside0.out (by assumption))) | exact HB.out)))); (case aL => have := LMc241.out; omega); intro v149 w260 ho hb hg hat; rw [← Ny148.out] at ho; have n0_ := Aside0.mk (Kd.S_over' (by (with_reducible repeat (first | apply Kd.S_alloc | apply Kd.S_drewN | apply Kd.S_drew)); exact HO_117000.out) (Kd.R_typed (by (with_reducible repeat (first | apply Kd.R_alloc | apply Kd.R_drewN | apply Kd.R_drew)); exact HO_117003.out)) (by decide) hg); have n1_ := Aside0.mk (Kd.R_over' (by (with_reducible repeat (first | apply Kd.R_alloc | apply Kd.R_drewN | apply Kd.R_drew)); exact HO_117001.out) (Kd.R_typed (by (with_reducible repeat (first | apply Kd.R_alloc | apply Kd.R_drewN | apply Kd.R_drew)); exact HO_117003.out)) (by decide) hg); have n2_ := Aside0.mk (Kd.R_over' (by (with_reducible repeat (first | apply Kd.R_alloc | apply Kd.R_drewN | apply Kd.R_drew)); exact HO_117002.out) (Kd.R_typed (by (with_reducible repeat (first | apply Kd.R_alloc | apply Kd.R_drewN | apply Kd.R_drew)); exact HO_117003.out)) (by decide) hg); have n3_ := Aside0.mk (bg BK101.out hg (Kd.R_ne HO_117003.out BK101.out (by decide))); have n4_ := Aside0.mk (bg BK102.out hg (Kd.R_ne HO_117003.out BK102.out (by decide))); have n5_ := Aside0.mk (bg BK103.out hg (Kd.R_ne HO_117003.out BK103.out (by decide))); have n6_ := Aside0.mk (bg BK113.out hg (Kd.R_ne HO_117003.out BK113.out (by decide))); have n7_ := Aside0.mk (bg BK116.out hg (Kd.R_ne HO_117003.out BK116.out (by decide))); have n8_ := Aside0.mk (bg BK146.out hg (Kd.R_away HO_117003.out (fun _ hk => hk.2))); have n9_ := Aside0.mk (hb); have n10_ := Aside0.mk (ho); clear HO_117000 HO_117001 HO_117002 BK101 BK102 BK103 BK113 BK116 BK146 HB HO_117003; have HO_117000 := n0_; have HO_117001 := n1_; have HO_117002 := n2_; have BK101 := n3_; have BK102 := n4_; have BK103 := n5_; have BK113 := n6_; have BK116 := n7_; have BK146 := n8_; have HB := n9_; have HO150 := n10_; clear n0_ n1_ n2_ n3_ n4_ n5_ n6_ n7_ n8_ n9_ n10_; clear ho hb hg hat; obtain ⟨Ao261, co261, eo261⟩ := Kd.R_slice HO150.out; subst eo261; obtain ⟨hcz262_0, hcz262_1, hcz262_2, hcz262_3⟩ := bc4 BK116.out; obtain ⟨hfz262_0, hfz262_1, hfz262_2, hfz262_3⟩ := bz4 BK116.out))
                    go_roundg k5
                    case measure => have := HJ4.out; have := HK2.out; have := HK3.out; have := HK4.out; have := HK5.out; omega
                    case rel => exact ⟨(wrap64 (x132_5 + 1)), (y148), (.slice Ao261 y148.length co261), (by first | rfl | (simp; done) | (simp [*]; done)), H', ⟨by have := HJ4.out; have := HK2.out; have := HK3.out; have := HK4.out; have := HK5.out; omega⟩, ⟨by (with_reducible repeat (first | apply Kd.S_alloc | apply Kd.S_drewN | apply Kd.S_drew)); exact Kd.S_mono (Kd.S_far (p := ⟨gb116, 3, none⟩) (Kd.S_types HO_117000.out BK116.out (by decide)) (fun _ hk => hk.2) (.slice Ao261 y148.length co261)) (fun _ hk => trivial)⟩, ⟨by (with_reducible repeat (first | apply Kd.R_alloc | apply Kd.R_drewN | apply Kd.R_drew)); exact Kd.R_mono (Kd.R_far (p := ⟨gb116, 3, none⟩) (Kd.R_types HO_117001.out BK116.out (by decide)) (fun _ hk => hk.2) (.slice Ao261 y148.length co261)) (fun _ hk => trivial)⟩, ⟨by (with_reducible repeat (first | apply Kd.R_alloc | apply Kd.R_drewN | apply Kd.R_drew)); exact Kd.R_mono (Kd.R_far (p := ⟨gb116, 3, none⟩) (Kd.R_types HO_117002.out BK116.out (by decide)) (fun _ hk => hk.2) (.slice Ao261 y148.length co261)) (fun _ hk => trivial)⟩, ⟨by (with_reducible repeat (first | apply Kd.R_alloc | apply Kd.R_drewN | apply Kd.R_drew)); exact Kd.R_mono (Kd.R_far (p := ⟨gb116, 3, none⟩) (Kd.R_types HO150.out BK116.out (by decide)) (fun _ hk => hk.2) (.slice Ao261 y148.length co261)) (fun _ hk => trivial)⟩, ⟨by (repeat refine bk ?_); refine blk_far ?_ NB101_116.out _; (repeat refine bk ?_); exact BK101.out⟩, ⟨by (repeat refine bk ?_); refine blk_far ?_ NB102_116.out _; (repeat refine bk ?_); exact BK102.out⟩, ⟨by (repeat refine bk ?_); refine blk_far ?_ NB103_116.out _; (repeat refine bk ?_); exact BK103.out⟩, ⟨by (repeat refine bk ?_); refine blk_far ?_ NB113_116.out _; (repeat refine bk ?_); exact BK113.out⟩, ⟨by (repeat refine bk ?_); refine blk_put (cs := #[u117000, u117001, u117002, u117003]) ?_ 3 _ rfl; (repeat refine bk ?_); exact BK116.out⟩, ⟨by repeat (first | (with_reducible first | exact HB.out | apply below_alloc | apply pw_below_drewN | apply below_drew1 | refine below_set ?_ (Aside0.out (by assumption))) | exact HB.out)⟩⟩
                   ·
                    rw [if_neg c241] at H
                    exact absurd H (by simp)
                  ·
                   replace c240 := Bool.eq_false_iff.mpr c240
                   subst c240
                   have H1 : (band_Problem.l4 k5 l1_2 (l1_2.length : Int) (wrap64 (x132_5 + 1)) t104 t105 t106 t107 t108 t109 t110 t111 x117000_2 x117001_3 x117002_4 x117003_5) = some (r1, r2, r3, r4, r5) := by rw [if_neg (show ¬ (false = true) by decide)] at H; exact H
                   clear H
                   have H := H1
                   clear H1
                   have H' := Aside0.mk H
                   clear H
                   have p145 : 0 ≤ (x132_5 : Int) := of_decide_eq_true (by first | (with_reducible assumption) | assumption)
                   have q145 : x132_5 < (l1_2.length : Int) := of_decide_eq_true (by first | (with_reducible assumption) | assumption)
                   obtain ⟨ad145, e145, hx145_0, hx145_1, hx145_2, hx145_3⟩ := at_T99 HR1_2.out x132_5 p145 q145
                   cases e145
                   replace hx145_0 := (HB.out.cell (World.block_lt_of_cell? w _ hx145_0)).trans hx145_0
                   replace hx145_1 := (HB.out.cell (World.block_lt_of_cell? w _ hx145_1)).trans hx145_1
                   replace hx145_2 := (HB.out.cell (World.block_lt_of_cell? w _ hx145_2)).trans hx145_2
                   replace hx145_3 := (HB.out.cell (World.block_lt_of_cell? w _ hx145_3)).trans hx145_3
                   replace p145 := eq_true p145
                   replace q145 := eq_true q145
                   go_wp2_with (first | ((with_reducible refine gate_dst (N := 23) rfl ?_); refine box_event ?hg (N := 23) ?hd (cs := #[.int .i64 0, .int .i64 0, .int .i64 0, .int .i64 0]) (t := 99) ?hr ?_; (case hd => rfl); (case hg => rfl); (case hr => first | (go_simp; done) | (go_simp; rfl)); intro gb146 hg w263 hbox hb; have n0_ := Aside0.mk (Kd.S_below (by (with_reducible repeat (first | apply Kd.S_alloc | apply Kd.S_drewN | apply Kd.S_drew)); exact HO_117000.out) hb); have n1_ := Aside0.mk (Kd.R_below (by (with_reducible repeat (first | apply Kd.R_alloc | apply Kd.R_drewN | apply Kd.R_drew)); exact HO_117001.out) hb); have n2_ := Aside0.mk (Kd.R_below (by (with_reducible repeat (first | apply Kd.R_alloc | apply Kd.R_drewN | apply Kd.R_drew)); exact HO_117002.out) hb); have n3_ := Aside0.mk (Kd.R_below (Kd.R_elderB (by (with_reducible repeat (first | apply Kd.R_alloc | apply Kd.R_drewN | apply Kd.R_drew)); exact HO_117003.out) gb146 (Nat.le_of_eq hg.symm)) hb); have n4_ := Aside0.mk (bb BK101.out hb); have n5_ := Aside0.mk (bb BK102.out hb); have n6_ := Aside0.mk (bb BK103.out hb); have n7_ := Aside0.mk (bb BK113.out hb); have n8_ := Aside0.mk (bb BK116.out hb); have n9_ := Aside0.mk (below_step (by repeat (first | (with_reducible first | exact HB.out | apply below_alloc | apply pw_below_drewN | apply below_drew1 | refine below_set ?_ (Aside0.out (by assumption))) | exact HB.out)) hb); have n10_ := Aside0.mk (hbox); have n11_ := Aside0.mk ((by rw [hg]; exact (below_size (by repeat (first | (with_reducible first | exact HB.out | apply below_alloc | apply pw_below_drewN | apply below_drew1 | refine below_set ?_ (Aside0.out (by assumption))) | exact HB.out))) : w.heap.size ≤ gb146)); have n12_ := Aside0.mk ((by rw [hg]; exact (below_size (by repeat (first | (with_reducible first | exact HB.out | apply below_alloc | apply pw_below_drewN | apply below_drew1 | refine below_set ?_ (Aside0.out (by assumption))) | exact HB.out))) : w.heap.size ≤ gb146)); have n13_ := Aside0.mk ((by rw [hg]; exact Nat.ne_of_lt (bl BK101.out) : gb101 ≠ gb146)); have n14_ := Aside0.mk ((by rw [hg]; exact Nat.ne_of_gt (bl BK101.out) : gb146 ≠ gb101)); have n15_ := Aside0.mk ((by rw [hg]; exact Nat.ne_of_lt (bl BK102.out) : gb102 ≠ gb146)); have n16_ := Aside0.mk ((by rw [hg]; exact Nat.ne_of_gt (bl BK102.out) : gb146 ≠ gb102)); have n17_ := Aside0.mk ((by rw [hg]; exact Nat.ne_of_lt (bl BK103.out) : gb103 ≠ gb146)); have n18_ := Aside0.mk ((by rw [hg]; exact Nat.ne_of_gt (bl BK103.out) : gb146 ≠ gb103)); have n19_ := Aside0.mk ((by rw [hg]; exact Nat.ne_of_lt (bl BK113.out) : gb113 ≠ gb146)); have n20_ := Aside0.mk ((by rw [hg]; exact Nat.ne_of_gt (bl BK113.out) : gb146 ≠ gb113)); have n21_ := Aside0.mk ((by rw [hg]; exact Nat.ne_of_lt (bl BK116.out) : gb116 ≠ gb146)); have n22_ := Aside0.mk ((by rw [hg]; exact Nat.ne_of_gt (bl BK116.out) : gb146 ≠ gb116)); clear HO_117000 HO_117001 HO_117002 HO_117003 BK101 BK102 BK103 BK113 BK116 HB; have HO_117000 := n0_; have HO_117001 := n1_; have HO_117002 := n2_; have HO_117003 := n3_; have BK101 := n4_; have BK102 := n5_; have BK103 := n6_; have BK113 := n7_; have BK116 := n8_; have HB := n9_; have BK146 := n10_; have GW146 := n11_; have GE146 := n12_; have NB101_146 := n13_; have NB146_101 := n14_; have NB102_146 := n15_; have NB146_102 := n16_; have NB103_146 := n17_; have NB146_103 := n18_; have NB113_146 := n19_; have NB146_113 := n20_; have NB116_146 := n21_; have NB146_116 := n22_; clear n0_ n1_ n2_ n3_ n4_ n5_ n6_ n7_ n8_ n9_ n10_ n11_ n12_ n13_ n14_ n15_ n16_ n17_ n18_ n19_ n20_ n21_ n22_; clear hb hbox hg; have hnb264 := NB146_101.out; have hnc264 := NB101_146.out; have hnb265 := NB146_102.out; have hnc265 := NB102_146.out; have hnb266 := NB146_103.out; have hnc266 := NB103_146.out; have hnb267 := NB146_113.out; have hnc267 := NB113_146.out; have hnb268 := NB146_116.out; have hnc268 := NB116_146.out; obtain ⟨hcz269_0, hcz269_1, hcz269_2, hcz269_3⟩ := bc4 BK146.out; obtain ⟨hfz269_0, hfz269_1, hfz269_2, hfz269_3⟩ := bz4 BK146.out; have hnb270 := NB113_101.out; have hnc270 := NB101_113.out; have hnb271 := NB113_102.out; have hnc271 := NB102_113.out; have hnb272 := NB113_103.out; have hnc272 := NB103_113.out; have hnb273 := NB113_116.out; have hnc273 := NB116_113.out; obtain ⟨hcz274_0, hcz274_1, hcz274_2, hcz274_3, hcz274_4, hcz274_5, hcz274_6, hcz274_7⟩ := bc8 BK113.out; obtain ⟨hfz274_0, hfz274_1, hfz274_2, hfz274_3, hfz274_4, hfz274_5, hfz274_6, hfz274_7⟩ := bz8 BK113.out) | ((with_reducible refine gate_callee (f := 43) rfl ?_); refine goesL_ (some 139) rfl rfl Try.func43 (by kernel_rfl) rfl #[.agg #[.int .u64 t104, .int .u64 t105, .int .u64 t106, .int .u64 t107, .int .u64 t108, .int .u64 t109, .int .u64 t110, .int .u64 t111], .int .i64 ((rd_T99 l1_2 x132_5).f0)] rfl (by (try simp only [List.map_toArray, List.map_cons, List.map_nil]); first | done | rfl | (simp only [List.length_drop, List.length_take]; rfl)) ?_; (with_reducible refine (bitset_Set_Has.calls t104 t105 t106 t107 t108 t109 t110 t111 ((rd_T99 l1_2 x132_5).f0) false _ A239.out).mono ?_); rintro e w275 ⟨rfl, hb⟩; refine ⟨_, rfl, ?_⟩; have n0_ := Aside0.mk (Kd.S_below (by (with_reducible repeat (first | apply Kd.S_alloc | apply Kd.S_drewN | apply Kd.S_drew)); exact (Kd.S_mono (Kd.S_far (p := ⟨gb146, 3, none⟩) (Kd.S_far (p := ⟨gb146, 2, none⟩) (Kd.S_far (p := ⟨gb146, 1, none⟩) (Kd.S_far (p := ⟨gb146, 0, none⟩) (Kd.S_types HO_117000.out BK146.out (by decide)) (fun _ hk => hk.2) (.int .i64 ((rd_T99 l1_2 x132_5).f0))) (fun _ hk => hk.2) (.int .i64 ((rd_T99 l1_2 x132_5).f1))) (fun _ hk => hk.2) (.int .i64 ((rd_T99 l1_2 x132_5).f2))) (fun _ hk => hk.2) (.int .i64 ((rd_T99 l1_2 x132_5).f3))) (fun _ h_ => h_.1))) hb); have n1_ := Aside0.mk (Kd.R_below (by (with_reducible repeat (first | apply Kd.R_alloc | apply Kd.R_drewN | apply Kd.R_drew)); exact (Kd.R_mono (Kd.R_far (p := ⟨gb146, 3, none⟩) (Kd.R_far (p := ⟨gb146, 2, none⟩) (Kd.R_far (p := ⟨gb146, 1, none⟩) (Kd.R_far (p := ⟨gb146, 0, none⟩) (Kd.R_types HO_117001.out BK146.out (by decide)) (fun _ hk => hk.2) (.int .i64 ((rd_T99 l1_2 x132_5).f0))) (fun _ hk => hk.2) (.int .i64 ((rd_T99 l1_2 x132_5).f1))) (fun _ hk => hk.2) (.int .i64 ((rd_T99 l1_2 x132_5).f2))) (fun _ hk => hk.2) (.int .i64 ((rd_T99 l1_2 x132_5).f3))) (fun _ h_ => h_.1))) hb); have n2_ := Aside0.mk (Kd.R_below (by (with_reducible repeat (first | apply Kd.R_alloc | apply Kd.R_drewN | apply Kd.R_drew)); exact (Kd.R_mono (Kd.R_far (p := ⟨gb146, 3, none⟩) (Kd.R_far (p := ⟨gb146, 2, none⟩) (Kd.R_far (p := ⟨gb146, 1, none⟩) (Kd.R_far (p := ⟨gb146, 0, none⟩) (Kd.R_types HO_117002.out BK146.out (by decide)) (fun _ hk => hk.2) (.int .i64 ((rd_T99 l1_2 x132_5).f0))) (fun _ hk => hk.2) (.int .i64 ((rd_T99 l1_2 x132_5).f1))) (fun _ hk => hk.2) (.int .i64 ((rd_T99 l1_2 x132_5).f2))) (fun _ hk => hk.2) (.int .i64 ((rd_T99 l1_2 x132_5).f3))) (fun _ h_ => h_.1))) hb); have n3_ := Aside0.mk (Kd.R_below (by (with_reducible repeat (first | apply Kd.R_alloc | apply Kd.R_drewN | apply Kd.R_drew)); exact (Kd.R_mono (Kd.R_far (p := ⟨gb146, 3, none⟩) (Kd.R_far (p := ⟨gb146, 2, none⟩) (Kd.R_far (p := ⟨gb146, 1, none⟩) (Kd.R_far (p := ⟨gb146, 0, none⟩) (Kd.R_mono HO_117003.out (fun k_ hk => (⟨hk, hk.2⟩ : _ ∧ k_ ≠ gb146))) (fun _ hk => hk.2) (.int .i64 ((rd_T99 l1_2 x132_5).f0))) (fun _ hk => hk.2) (.int .i64 ((rd_T99 l1_2 x132_5).f1))) (fun _ hk => hk.2) (.int .i64 ((rd_T99 l1_2 x132_5).f2))) (fun _ hk => hk.2) (.int .i64 ((rd_T99 l1_2 x132_5).f3))) (fun _ h_ => h_.1))) hb); have n4_ := Aside0.mk (blk_below (g := gb101) (o := .cells #[.slice A1_0 l1_0.length c1_0, .slice A1_1 l1_1.length c1_1, .slice (some ad145) l1_2.length c1_2] 44 (0, 0)) (by (repeat refine bk ?_); refine blk_far ?_ NB101_146.out _; (repeat refine bk ?_); refine blk_far ?_ NB101_146.out _; (repeat refine bk ?_); refine blk_far ?_ NB101_146.out _; (repeat refine bk ?_); refine blk_far ?_ NB101_146.out _; (repeat refine bk ?_); exact BK101.out) hb); have n5_ := Aside0.mk (blk_below (g := gb102) (o := .cells #[.int .i64 a2_0] 34 (0, 0)) (by (repeat refine bk ?_); refine blk_far ?_ NB102_146.out _; (repeat refine bk ?_); refine blk_far ?_ NB102_146.out _; (repeat refine bk ?_); refine blk_far ?_ NB102_146.out _; (repeat refine bk ?_); refine blk_far ?_ NB102_146.out _; (repeat refine bk ?_); exact BK102.out) hb); have n6_ := Aside0.mk (blk_below (g := gb103) (o := .cells #[.slice none 0 0, .slice none 0 0, .slice none 0 0, .slice none 0 0] 49 (0, 0)) (by (repeat refine bk ?_); refine blk_far ?_ NB103_146.out _; (repeat refine bk ?_); refine blk_far ?_ NB103_146.out _; (repeat refine bk ?_); refine blk_far ?_ NB103_146.out _; (repeat refine bk ?_); refine blk_far ?_ NB103_146.out _; (repeat refine bk ?_); exact BK103.out) hb); have n7_ := Aside0.mk (blk_below (g := gb113) (o := .cells #[.int .u64 t104, .int .u64 t105, .int .u64 t106, .int .u64 t107, .int .u64 t108, .int .u64 t109, .int .u64 t110, .int .u64 t111] 92 (0, 0)) (by (repeat refine bk ?_); refine blk_far ?_ NB113_146.out _; (repeat refine bk ?_); refine blk_far ?_ NB113_146.out _; (repeat refine bk ?_); refine blk_far ?_ NB113_146.out _; (repeat refine bk ?_); refine blk_far ?_ NB113_146.out _; (repeat refine bk ?_); exact BK113.out) hb); have n8_ := Aside0.mk (blk_below (g := gb116) (o := .cells #[u117000, u117001, u117002, u117003] 49 (0, 0)) (by (repeat refine bk ?_); refine blk_far ?_ NB116_146.out _; (repeat refine bk ?_); refine blk_far ?_ NB116_146.out _; (repeat refine bk ?_); refine blk_far ?_ NB116_146.out _; (repeat refine bk ?_); refine blk_far ?_ NB116_146.out _; (repeat refine bk ?_); exact BK116.out) hb); have n9_ := Aside0.mk (blk_below (g := gb146) (o := .cells #[.int .i64 ((rd_T99 l1_2 x132_5).f0), .int .i64 ((rd_T99 l1_2 x132_5).f1), .int .i64 ((rd_T99 l1_2 x132_5).f2), .int .i64 ((rd_T99 l1_2 x132_5).f3)] 99 (0, 0)) (by (repeat refine bk ?_); refine blk_put (cs := #[.int .i64 ((rd_T99 l1_2 x132_5).f0), .int .i64 ((rd_T99 l1_2 x132_5).f1), .int .i64 ((rd_T99 l1_2 x132_5).f2), .int .i64 0]) ?_ 3 _ rfl; (repeat refine bk ?_); refine blk_put (cs := #[.int .i64 ((rd_T99 l1_2 x132_5).f0), .int .i64 ((rd_T99 l1_2 x132_5).f1), .int .i64 0, .int .i64 0]) ?_ 2 _ rfl; (repeat refine bk ?_); refine blk_put (cs := #[.int .i64 ((rd_T99 l1_2 x132_5).f0), .int .i64 0, .int .i64 0, .int .i64 0]) ?_ 1 _ rfl; (repeat refine bk ?_); refine blk_put (cs := #[.int .i64 0, .int .i64 0, .int .i64 0, .int .i64 0]) ?_ 0 _ rfl; (repeat refine bk ?_); exact BK146.out) hb); have n10_ := Aside0.mk (below_step (by repeat (first | (with_reducible first | exact HB.out | apply below_alloc | apply pw_below_drewN | apply below_drew1 | refine below_set ?_ (Aside0.out (by assumption))) | exact HB.out)) hb); clear HO_117000 HO_117001 HO_117002 HO_117003 BK101 BK102 BK103 BK113 BK116 BK146 HB; have HO_117000 := n0_; have HO_117001 := n1_; have HO_117002 := n2_; have HO_117003 := n3_; have BK101 := n4_; have BK102 := n5_; have BK103 := n6_; have BK113 := n7_; have BK116 := n8_; have BK146 := n9_; have HB := n10_; clear n0_ n1_ n2_ n3_ n4_ n5_ n6_ n7_ n8_ n9_ n10_; (try clear hb); (try clear hb2); (try clear hk); (try clear hi)))
                   go_roundg k5
                   case measure => have := HJ4.out; have := HK2.out; have := HK3.out; have := HK4.out; have := HK5.out; omega
                   case rel => exact ⟨(wrap64 (x132_5 + 1)), (x117003_5), (u117003), (by first | rfl | (simp; done) | (simp [*]; done)), H', ⟨by have := HJ4.out; have := HK2.out; have := HK3.out; have := HK4.out; have := HK5.out; omega⟩, ⟨by (with_reducible repeat (first | apply Kd.S_alloc | apply Kd.S_drewN | apply Kd.S_drew)); exact HO_117000.out⟩, ⟨by (with_reducible repeat (first | apply Kd.R_alloc | apply Kd.R_drewN | apply Kd.R_drew)); exact HO_117001.out⟩, ⟨by (with_reducible repeat (first | apply Kd.R_alloc | apply Kd.R_drewN | apply Kd.R_drew)); exact HO_117002.out⟩, ⟨by (with_reducible repeat (first | apply Kd.R_alloc | apply Kd.R_drewN | apply Kd.R_drew)); exact Kd.R_mono HO_117003.out (fun _ hk => trivial)⟩, ⟨by (repeat refine bk ?_); exact BK101.out⟩, ⟨by (repeat refine bk ?_); exact BK102.out⟩, ⟨by (repeat refine bk ?_); exact BK103.out⟩, ⟨by (repeat refine bk ?_); exact BK113.out⟩, ⟨by (repeat refine bk ?_); exact BK116.out⟩, ⟨by repeat (first | (with_reducible first | exact HB.out | apply below_alloc | apply pw_below_drewN | apply below_drew1 | refine below_set ?_ (Aside0.out (by assumption))) | exact HB.out)⟩⟩
                 ·
                  rw [if_neg c238] at H
                  exact absurd H (by simp)
                ·
                 rw [if_neg c237] at H
                 exact absurd H (by simp)
               ·
                rw [if_neg c236] at H
                have c236b0 : decide (x132_5 < (l1_2.length : Int)) = false := decide_eq_false c236
                clear c236
                simp only [Option.some.injEq, Prod.mk.injEq] at H
                obtain ⟨rfl, rfl, rfl, rfl, rfl⟩ := H
                have hnb276 := NB116_101.out
                have hnc276 := NB101_116.out
                have hnb277 := NB116_102.out
                have hnc277 := NB102_116.out
                have hnb278 := NB116_103.out
                have hnc278 := NB103_116.out
                have hnb279 := NB116_113.out
                have hnc279 := NB113_116.out
                obtain ⟨hcz280_0, hcz280_1, hcz280_2, hcz280_3⟩ := bc4 BK116.out
                obtain ⟨hfz280_0, hfz280_1, hfz280_2, hfz280_3⟩ := bz4 BK116.out
                obtain ⟨Ao281, co281, eo281⟩ := Kd.S_slice HO_117000.out
                subst eo281
                have hnb282 := NB103_101.out
                have hnc282 := NB101_103.out
                have hnb283 := NB103_102.out
                have hnc283 := NB102_103.out
                have hnb284 := NB103_113.out
                have hnc284 := NB113_103.out
                obtain ⟨hcz285_0, hcz285_1, hcz285_2, hcz285_3⟩ := bc4 BK103.out
                obtain ⟨hfz285_0, hfz285_1, hfz285_2, hfz285_3⟩ := bz4 BK103.out
                obtain ⟨Ao286, co286, eo286⟩ := Kd.R_slice HO_117001.out
                subst eo286
                obtain ⟨Ao287, co287, eo287⟩ := Kd.R_slice HO_117002.out
                subst eo287
                obtain ⟨Ao288, co288, eo288⟩ := Kd.R_slice HO_117003.out
                subst eo288
                go_wp2
                refine bodyPost_ret (results_ct rfl _ _ gb103 49 #[.slice Ao281 x117000_2.length co281, .slice Ao286 x117001_3.length co286, .slice Ao287 x117002_4.length co287, .slice Ao288 x117003_5.length co288] (0, 0) _ rfl (by (repeat refine bk ?_); refine blk_put (cs := #[.slice Ao281 x117000_2.length co281, .slice Ao286 x117001_3.length co286, .slice Ao287 x117002_4.length co287, .slice none 0 0]) ?_ 3 _ rfl; (repeat refine bk ?_); refine blk_put (cs := #[.slice Ao281 x117000_2.length co281, .slice Ao286 x117001_3.length co286, .slice none 0 0, .slice none 0 0]) ?_ 2 _ rfl; (repeat refine bk ?_); refine blk_put (cs := #[.slice Ao281 x117000_2.length co281, .slice none 0 0, .slice none 0 0, .slice none 0 0]) ?_ 1 _ rfl; (repeat refine bk ?_); refine blk_put (cs := #[.slice none 0 0, .slice none 0 0, .slice none 0 0, .slice none 0 0]) ?_ 0 _ rfl; (repeat refine bk ?_); exact BK103.out) Try.underlying49 rfl (by kernel_rfl)) rfl ?_
                exact ⟨_, _, _, _, by first | rfl | (simp [errW_none, errW_some] <;> rfl) | (simp [*, errW_none, errW_some] <;> rfl), by (with_reducible repeat (first | apply Kd.S_alloc | apply Kd.S_drewN | apply Kd.S_drew)); exact Kd.S_mono (Kd.S_far (p := ⟨gb103, 3, none⟩) (Kd.S_far (p := ⟨gb103, 2, none⟩) (Kd.S_far (p := ⟨gb103, 1, none⟩) (Kd.S_far (p := ⟨gb103, 0, none⟩) (Kd.S_types HO_117000.out BK103.out (by decide)) (fun _ hk => hk.2) (.slice Ao281 x117000_2.length co281)) (fun _ hk => hk.2) (.slice Ao286 x117001_3.length co286)) (fun _ hk => hk.2) (.slice Ao287 x117002_4.length co287)) (fun _ hk => hk.2) (.slice Ao288 x117003_5.length co288)) (fun _ hk => trivial), by (with_reducible repeat (first | apply Kd.R_alloc | apply Kd.R_drewN | apply Kd.R_drew)); exact Kd.R_mono (Kd.R_far (p := ⟨gb103, 3, none⟩) (Kd.R_far (p := ⟨gb103, 2, none⟩) (Kd.R_far (p := ⟨gb103, 1, none⟩) (Kd.R_far (p := ⟨gb103, 0, none⟩) (Kd.R_types HO_117001.out BK103.out (by decide)) (fun _ hk => hk.2) (.slice Ao281 x117000_2.length co281)) (fun _ hk => hk.2) (.slice Ao286 x117001_3.length co286)) (fun _ hk => hk.2) (.slice Ao287 x117002_4.length co287)) (fun _ hk => hk.2) (.slice Ao288 x117003_5.length co288)) (fun _ hk => trivial), by (with_reducible repeat (first | apply Kd.R_alloc | apply Kd.R_drewN | apply Kd.R_drew)); exact Kd.R_mono (Kd.R_far (p := ⟨gb103, 3, none⟩) (Kd.R_far (p := ⟨gb103, 2, none⟩) (Kd.R_far (p := ⟨gb103, 1, none⟩) (Kd.R_far (p := ⟨gb103, 0, none⟩) (Kd.R_types HO_117002.out BK103.out (by decide)) (fun _ hk => hk.2) (.slice Ao281 x117000_2.length co281)) (fun _ hk => hk.2) (.slice Ao286 x117001_3.length co286)) (fun _ hk => hk.2) (.slice Ao287 x117002_4.length co287)) (fun _ hk => hk.2) (.slice Ao288 x117003_5.length co288)) (fun _ hk => trivial), by (with_reducible repeat (first | apply Kd.R_alloc | apply Kd.R_drewN | apply Kd.R_drew)); exact Kd.R_mono (Kd.R_far (p := ⟨gb103, 3, none⟩) (Kd.R_far (p := ⟨gb103, 2, none⟩) (Kd.R_far (p := ⟨gb103, 1, none⟩) (Kd.R_far (p := ⟨gb103, 0, none⟩) (Kd.R_types HO_117003.out BK103.out (by decide)) (fun _ hk => hk.2) (.slice Ao281 x117000_2.length co281)) (fun _ hk => hk.2) (.slice Ao286 x117001_3.length co286)) (fun _ hk => hk.2) (.slice Ao287 x117002_4.length co287)) (fun _ hk => hk.2) (.slice Ao288 x117003_5.length co288)) (fun _ hk => trivial), by repeat (first | (with_reducible first | exact HB.out | apply below_alloc | apply pw_below_drewN | apply below_drew1 | refine below_set ?_ (Aside0.out (by assumption))) | exact HB.out)⟩

end Go.Proofs.Ytenhigpeafaidaa.T
