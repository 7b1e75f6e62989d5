/- Contracts of the functions that the statements reach, part 2: what each call answers and leaves. Conditions: those that each theorem states. -/
import Derived.Test.YtenhigpeafaidaaProg
import Derived.Below
import Derived.Deep.Draws
import Derived.Deep.AppendLies
import Derived.Maps.AppendAt
import Derived.OwnWalk
import Derived.Laws.BytesArg
import Derived.Laws.MakeOwn
import Derived.Laws.OwnMore
import Derived.Deep.OwnRows
import Derived.Tactics
import Derived.Lib.ConvBytes
import Derived.Laws.Slices
import Derived.WalkKit
import Derived.KernelRfl
import Derived.RowKit3
import Derived.Deep.LoopGhost
import Derived.Deep.QuietTactic
import Derived.BigQuiet
import Derived.WideLaws
import Derived.Deep.DeepCutAuto
import Derived.Deep.CutBlock
import Derived.Deep.RegionHeld3
import Derived.Laws.Rows
import Derived.Lib.AppendStr
import Derived.ArgAppend
import Derived.Laws.IdiomCopy
import Derived.OrdersHeld
import Derived.Laws.BitsLemmas
import Derived.RowKit
import Derived.Test.YtenhigpeafaidaaGb1
import Derived.RegionCalls
import Derived.Lib.Hide
import Derived.RegionTactic
import Derived.Outline
import Derived.Laws.BitsAllLaws
import Derived.WalkSpells
import Derived.Lib.SliceRun
import Derived.WalkLawsBesides
import Derived.Laws.Shifts
import Derived.StillTailTactics
import Derived.Maps.Own
import Derived.Maps.OwnOps
import Derived.Maps.Views
import Derived.Maps.OwnSet
-- Qk
-- Printed by a program of this session's over the kit's printer, with functions given from outside. Lean checks it.
namespace Go.Proofs.Ytenhigpeafaidaa.Q
open Go.RowKit Go.Proofs.YtenhigpeafaidaaW.PrintWords Go.Proofs.YtenhigpeafaidaaW.PrintLast Go.Proofs.YtenhigpeafaidaaW.PrintMore
attribute [local go_sem] max2_int min2_int max_two min_two max_three min_three max_four min_four   -- for this text's walks alone
set_option linter.unusedVariables false
set_option linter.unusedSimpArgs false



def errW : Option Int → Value
 | none => .nilIface
 | some c => .iface 0 (.int .i64 c)
theorem errW_none : errW none = .nilIface := rfl
theorem errW_some (c : Int) : errW (some c) = .iface 0 (.int .i64 c) := rfl

theorem info3 : (Try.prog.info? 3).map (fun i => (i.zero, i.size, i.bytes)) = some (some (.int .i64 0), 1, 8) := by kernel_rfl
theorem info84 : (Try.prog.info? 84).map (fun i => (i.zero, i.size, i.bytes)) = some (some (.agg #[(.int .i64 0), (.int .i64 0), (.int .i64 0), (.int .i64 0), (.int .i64 0)]), 5, 40) := by kernel_rfl
theorem info86 : (Try.prog.info? 86).map (fun i => (i.zero, i.size, i.bytes)) = some (some (.agg #[(.int .i64 0), (.slice none 0 0)]), 2, 32) := by kernel_rfl
theorem info97 : (Try.prog.info? 97).map (fun i => (i.zero, i.size, i.bytes)) = some (some (.agg #[(.int .i64 0), (.int .i64 0), (.int .i64 0), (.int .i64 0), (.int .i64 0)]), 5, 40) := by kernel_rfl
theorem info99 : (Try.prog.info? 99).map (fun i => (i.zero, i.size, i.bytes)) = some (some (.agg #[(.int .i64 0), (.int .i64 0), (.int .i64 0), (.int .i64 0)]), 4, 32) := by kernel_rfl
-- the values' own types
/-! #### struct type 78 -/
structure S78 where
 f0 : Int
 f1 : (List Int)
def z78 : S78 := ⟨(0 : Int), ([] : List Int)⟩
def k78 : Kd S78 := Kd.iso (Kd.pair (Kd.int .i64) (Kd.slice 3 (Kd.int .i64))) (fun x : S78 => (x.f0, x.f1))
theorem k78_open {w : World} {x : S78} {cs : List Value} (h : k78.K w x cs) : ∃ A1 c1, cs = [.int .i64 x.f0, .slice A1 x.f1.length c1] ∧ x.f1.length ≤ c1 ∧ (Kd.int .i64).C w A1 x.f1.length x.f1 := by
 obtain ⟨_, _, rfl, rfl, ⟨A1, c1, rfl, l1, g1⟩⟩ := h
 exact ⟨A1, c1, rfl, l1, g1⟩
theorem k78_mk (w : World) (x : S78) {A1 : Option Addr} {c1 : Nat} (l1 : x.f1.length ≤ c1) (g1 : (Kd.int .i64).C w A1 x.f1.length x.f1) : k78.K w x [.int .i64 x.f0, .slice A1 x.f1.length c1] := ⟨[.int .i64 x.f0], [.slice A1 x.f1.length c1], rfl, rfl, ⟨A1, c1, rfl, l1, g1⟩⟩
def rd_T78 (xs : List S78) (i : Int) : S78 := xs.getD i.toNat z78
theorem at_T78 {w : World} {A : Option Addr} {n : Nat} {xs : List S78} (h : Kd.C k78 w A n xs) (i : Int) (h0 : 0 ≤ i) (h1 : i < n) : ∃ ad A1 c1, A = some ad ∧ w.cell? (ad.add (i.toNat * 2)) = some (.int .i64 (rd_T78 xs i).f0) ∧ w.cell? ⟨(ad.add (i.toNat * 2)).block, (ad.add (i.toNat * 2)).off + 1, none⟩ = some (.slice A1 (rd_T78 xs i).f1.length c1) ∧ (rd_T78 xs i).f1.length ≤ c1 ∧ (Kd.int .i64).C w A1 (rd_T78 xs i).f1.length (rd_T78 xs i).f1 := by
 obtain ⟨ad, c, e, _, hK, hc0⟩ := Kd.C_get h z78 i h0 h1
 have hc : ∀ j u, c[j]? = some u → w.cell? (ad.add (i.toNat * 2 + j)) = some u := hc0
 obtain ⟨A1, c1, rfl, l1, g1⟩ := k78_open hK
 exact ⟨ad, A1, c1, e, hc 0 _ rfl, by rw [← add_field _ _ 1 (by omega)]; exact hc 1 _ rfl, l1, g1⟩

/-! #### struct type 84 -/
structure S84 where
 f0 : Int
 f1 : Int
 f2 : Int
 f3 : Int
 f4 : Int
def z84 : S84 := ⟨(0 : Int), (0 : Int), (0 : Int), (0 : Int), (0 : Int)⟩
def k84 : Kd S84 := Kd.iso (Kd.pair (Kd.int .i64) (Kd.pair (Kd.int .i64) (Kd.pair (Kd.int .i64) (Kd.pair (Kd.int .i64) (Kd.int .i64))))) (fun x : S84 => (x.f0, x.f1, x.f2, x.f3, x.f4))
theorem k84_open {w : World} {x : S84} {cs : List Value} (h : k84.K w x cs) : cs = [.int .i64 x.f0, .int .i64 x.f1, .int .i64 x.f2, .int .i64 x.f3, .int .i64 x.f4] := by
 obtain ⟨_, _, rfl, rfl, ⟨_, _, rfl, rfl, ⟨_, _, rfl, rfl, ⟨_, _, rfl, rfl, rfl⟩⟩⟩⟩ := h
 exact rfl
theorem k84_mkM (w : World) (base : Nat) (ok : Nat → Prop) (x : S84)  : k84.M w base ok x [.int .i64 x.f0, .int .i64 x.f1, .int .i64 x.f2, .int .i64 x.f3, .int .i64 x.f4] := ⟨[.int .i64 x.f0], [.int .i64 x.f1, .int .i64 x.f2, .int .i64 x.f3, .int .i64 x.f4], rfl, rfl, ⟨[.int .i64 x.f1], [.int .i64 x.f2, .int .i64 x.f3, .int .i64 x.f4], rfl, rfl, ⟨[.int .i64 x.f2], [.int .i64 x.f3, .int .i64 x.f4], rfl, rfl, ⟨[.int .i64 x.f3], [.int .i64 x.f4], rfl, rfl, rfl⟩⟩⟩⟩
def rd_T84 (xs : List S84) (i : Int) : S84 := xs.getD i.toNat z84
theorem at_T84 {w : World} {A : Option Addr} {n : Nat} {xs : List S84} (h : Kd.C k84 w A n xs) (i : Int) (h0 : 0 ≤ i) (h1 : i < n) : ∃ ad , A = some ad ∧ w.cell? (ad.add (i.toNat * 5)) = some (.int .i64 (rd_T84 xs i).f0) ∧ w.cell? ⟨(ad.add (i.toNat * 5)).block, (ad.add (i.toNat * 5)).off + 1, none⟩ = some (.int .i64 (rd_T84 xs i).f1) ∧ w.cell? ⟨(ad.add (i.toNat * 5)).block, (ad.add (i.toNat * 5)).off + 2, none⟩ = some (.int .i64 (rd_T84 xs i).f2) ∧ w.cell? ⟨(ad.add (i.toNat * 5)).block, (ad.add (i.toNat * 5)).off + 3, none⟩ = some (.int .i64 (rd_T84 xs i).f3) ∧ w.cell? ⟨(ad.add (i.toNat * 5)).block, (ad.add (i.toNat * 5)).off + 4, none⟩ = some (.int .i64 (rd_T84 xs i).f4) := by
 obtain ⟨ad, c, e, _, hK, hc0⟩ := Kd.C_get h z84 i h0 h1
 have hc : ∀ j u, c[j]? = some u → w.cell? (ad.add (i.toNat * 5 + j)) = some u := hc0
 obtain rfl := k84_open hK
 exact ⟨ad, e, hc 0 _ rfl, by rw [← add_field _ _ 1 (by omega)]; exact hc 1 _ rfl, by rw [← add_field _ _ 2 (by omega)]; exact hc 2 _ rfl, by rw [← add_field _ _ 3 (by omega)]; exact hc 3 _ rfl, by rw [← add_field _ _ 4 (by omega)]; exact hc 4 _ rfl⟩

/-! #### struct type 97 -/
structure S97 where
 f0 : Int
 f1 : Int
 f2 : Int
 f3 : Int
 f4 : Int
def z97 : S97 := ⟨(0 : Int), (0 : Int), (0 : Int), (0 : Int), (0 : Int)⟩
def k97 : Kd S97 := Kd.iso (Kd.pair (Kd.int .i64) (Kd.pair (Kd.int .i64) (Kd.pair (Kd.int .i64) (Kd.pair (Kd.int .i64) (Kd.int .i64))))) (fun x : S97 => (x.f0, x.f1, x.f2, x.f3, x.f4))
theorem k97_open {w : World} {x : S97} {cs : List Value} (h : k97.K w x cs) : cs = [.int .i64 x.f0, .int .i64 x.f1, .int .i64 x.f2, .int .i64 x.f3, .int .i64 x.f4] := by
 obtain ⟨_, _, rfl, rfl, ⟨_, _, rfl, rfl, ⟨_, _, rfl, rfl, ⟨_, _, rfl, rfl, rfl⟩⟩⟩⟩ := h
 exact rfl
theorem k97_mkM (w : World) (base : Nat) (ok : Nat → Prop) (x : S97)  : k97.M w base ok x [.int .i64 x.f0, .int .i64 x.f1, .int .i64 x.f2, .int .i64 x.f3, .int .i64 x.f4] := ⟨[.int .i64 x.f0], [.int .i64 x.f1, .int .i64 x.f2, .int .i64 x.f3, .int .i64 x.f4], rfl, rfl, ⟨[.int .i64 x.f1], [.int .i64 x.f2, .int .i64 x.f3, .int .i64 x.f4], rfl, rfl, ⟨[.int .i64 x.f2], [.int .i64 x.f3, .int .i64 x.f4], rfl, rfl, ⟨[.int .i64 x.f3], [.int .i64 x.f4], rfl, rfl, rfl⟩⟩⟩⟩
def rd_T97 (xs : List S97) (i : Int) : S97 := xs.getD i.toNat z97
theorem at_T97 {w : World} {A : Option Addr} {n : Nat} {xs : List S97} (h : Kd.C k97 w A n xs) (i : Int) (h0 : 0 ≤ i) (h1 : i < n) : ∃ ad , A = some ad ∧ w.cell? (ad.add (i.toNat * 5)) = some (.int .i64 (rd_T97 xs i).f0) ∧ w.cell? ⟨(ad.add (i.toNat * 5)).block, (ad.add (i.toNat * 5)).off + 1, none⟩ = some (.int .i64 (rd_T97 xs i).f1) ∧ w.cell? ⟨(ad.add (i.toNat * 5)).block, (ad.add (i.toNat * 5)).off + 2, none⟩ = some (.int .i64 (rd_T97 xs i).f2) ∧ w.cell? ⟨(ad.add (i.toNat * 5)).block, (ad.add (i.toNat * 5)).off + 3, none⟩ = some (.int .i64 (rd_T97 xs i).f3) ∧ w.cell? ⟨(ad.add (i.toNat * 5)).block, (ad.add (i.toNat * 5)).off + 4, none⟩ = some (.int .i64 (rd_T97 xs i).f4) := by
 obtain ⟨ad, c, e, _, hK, hc0⟩ := Kd.C_get h z97 i h0 h1
 have hc : ∀ j u, c[j]? = some u → w.cell? (ad.add (i.toNat * 5 + j)) = some u := hc0
 obtain rfl := k97_open hK
 exact ⟨ad, e, hc 0 _ rfl, by rw [← add_field _ _ 1 (by omega)]; exact hc 1 _ rfl, by rw [← add_field _ _ 2 (by omega)]; exact hc 2 _ rfl, by rw [← add_field _ _ 3 (by omega)]; exact hc 3 _ rfl, by rw [← add_field _ _ 4 (by omega)]; exact hc 4 _ rfl⟩

/-! #### struct type 99 -/
structure S99 where
 f0 : Int
 f1 : Int
 f2 : Int
 f3 : Int
def z99 : S99 := ⟨(0 : Int), (0 : Int), (0 : Int), (0 : Int)⟩
def k99 : Kd S99 := Kd.iso (Kd.pair (Kd.int .i64) (Kd.pair (Kd.int .i64) (Kd.pair (Kd.int .i64) (Kd.int .i64)))) (fun x : S99 => (x.f0, x.f1, x.f2, x.f3))
theorem k99_open {w : World} {x : S99} {cs : List Value} (h : k99.K w x cs) : cs = [.int .i64 x.f0, .int .i64 x.f1, .int .i64 x.f2, .int .i64 x.f3] := by
 obtain ⟨_, _, rfl, rfl, ⟨_, _, rfl, rfl, ⟨_, _, rfl, rfl, rfl⟩⟩⟩ := h
 exact rfl
theorem k99_mkM (w : World) (base : Nat) (ok : Nat → Prop) (x : S99)  : k99.M w base ok x [.int .i64 x.f0, .int .i64 x.f1, .int .i64 x.f2, .int .i64 x.f3] := ⟨[.int .i64 x.f0], [.int .i64 x.f1, .int .i64 x.f2, .int .i64 x.f3], rfl, rfl, ⟨[.int .i64 x.f1], [.int .i64 x.f2, .int .i64 x.f3], rfl, rfl, ⟨[.int .i64 x.f2], [.int .i64 x.f3], rfl, rfl, rfl⟩⟩⟩
def rd_T99 (xs : List S99) (i : Int) : S99 := xs.getD i.toNat z99
theorem at_T99 {w : World} {A : Option Addr} {n : Nat} {xs : List S99} (h : Kd.C k99 w A n xs) (i : Int) (h0 : 0 ≤ i) (h1 : i < n) : ∃ ad , A = some ad ∧ w.cell? (ad.add (i.toNat * 4)) = some (.int .i64 (rd_T99 xs i).f0) ∧ w.cell? ⟨(ad.add (i.toNat * 4)).block, (ad.add (i.toNat * 4)).off + 1, none⟩ = some (.int .i64 (rd_T99 xs i).f1) ∧ w.cell? ⟨(ad.add (i.toNat * 4)).block, (ad.add (i.toNat * 4)).off + 2, none⟩ = some (.int .i64 (rd_T99 xs i).f2) ∧ w.cell? ⟨(ad.add (i.toNat * 4)).block, (ad.add (i.toNat * 4)).off + 3, none⟩ = some (.int .i64 (rd_T99 xs i).f3) := by
 obtain ⟨ad, c, e, _, hK, hc0⟩ := Kd.C_get h z99 i h0 h1
 have hc : ∀ j u, c[j]? = some u → w.cell? (ad.add (i.toNat * 4 + j)) = some u := hc0
 obtain rfl := k99_open hK
 exact ⟨ad, e, hc 0 _ rfl, by rw [← add_field _ _ 1 (by omega)]; exact hc 1 _ rfl, by rw [← add_field _ _ 2 (by omega)]; exact hc 2 _ rfl, by rw [← add_field _ _ 3 (by omega)]; exact hc 3 _ rfl⟩

/-! #### struct type 44 -/
/-! #### struct type 34 -/
/-! #### struct type 86 -/
structure S86 where
 f0 : Int
 f1 : (List Int)
def z86 : S86 := ⟨(0 : Int), ([] : List Int)⟩
def k86 : Kd S86 := Kd.iso (Kd.pair (Kd.int .i64) (Kd.slice 3 (Kd.int .i64))) (fun x : S86 => (x.f0, x.f1))
theorem k86_open {w : World} {x : S86} {cs : List Value} (h : k86.K w x cs) : ∃ A1 c1, cs = [.int .i64 x.f0, .slice A1 x.f1.length c1] ∧ x.f1.length ≤ c1 ∧ (Kd.int .i64).C w A1 x.f1.length x.f1 := by
 obtain ⟨_, _, rfl, rfl, ⟨A1, c1, rfl, l1, g1⟩⟩ := h
 exact ⟨A1, c1, rfl, l1, g1⟩
theorem k86_mkM (w : World) (base : Nat) (ok : Nat → Prop) (x : S86) {v1 : Value} (g1 : (Kd.int .i64).R 3 w base ok v1 x.f1) : k86.M w base ok x [.int .i64 x.f0, v1] := ⟨[.int .i64 x.f0], [v1], rfl, rfl, ⟨v1, rfl, g1⟩⟩
def rd_T86 (xs : List S86) (i : Int) : S86 := xs.getD i.toNat z86
theorem at_T86 {w : World} {A : Option Addr} {n : Nat} {xs : List S86} (h : Kd.C k86 w A n xs) (i : Int) (h0 : 0 ≤ i) (h1 : i < n) : ∃ ad A1 c1, A = some ad ∧ w.cell? (ad.add (i.toNat * 2)) = some (.int .i64 (rd_T86 xs i).f0) ∧ w.cell? ⟨(ad.add (i.toNat * 2)).block, (ad.add (i.toNat * 2)).off + 1, none⟩ = some (.slice A1 (rd_T86 xs i).f1.length c1) ∧ (rd_T86 xs i).f1.length ≤ c1 ∧ (Kd.int .i64).C w A1 (rd_T86 xs i).f1.length (rd_T86 xs i).f1 := by
 obtain ⟨ad, c, e, _, hK, hc0⟩ := Kd.C_get h z86 i h0 h1
 have hc : ∀ j u, c[j]? = some u → w.cell? (ad.add (i.toNat * 2 + j)) = some u := hc0
 obtain ⟨A1, c1, rfl, l1, g1⟩ := k86_open hK
 exact ⟨ad, A1, c1, e, hc 0 _ rfl, by rw [← add_field _ _ 1 (by omega)]; exact hc 1 _ rfl, l1, g1⟩

/-! #### struct type 49 -/
/-! #### struct type 75 -/
end Go.Proofs.Ytenhigpeafaidaa.Q
-- Zk
-- Printed by a program of this session's over the kit's printer, with functions given from outside. Lean checks it.
namespace Go.Proofs.Ytenhigpeafaidaa.Z
open Go.RowKit Go.Proofs.YtenhigpeafaidaaW.PrintWords Go.Proofs.YtenhigpeafaidaaW.PrintLast Go.Proofs.YtenhigpeafaidaaW.PrintMore Go.Proofs.Ytenhigpeafaidaa.Q
attribute [local go_sem] max2_int min2_int max_two min_two max_three min_three max_four min_four   -- for this text's walks alone
set_option linter.unusedVariables false
set_option linter.unusedSimpArgs false


-- the values' own types
end Go.Proofs.Ytenhigpeafaidaa.Z
-- Tk
-- Printed by a program of this session's over the kit's printer, with functions given from outside. Lean checks it.
namespace Go.Proofs.Ytenhigpeafaidaa.T
open Go.RowKit Go.Proofs.YtenhigpeafaidaaW.PrintWords Go.Proofs.YtenhigpeafaidaaW.PrintLast Go.Proofs.YtenhigpeafaidaaW.PrintMore Go.Proofs.Ytenhigpeafaidaa.Q
attribute [local go_sem] max2_int min2_int max_two min_two max_three min_three max_four min_four   -- for this text's walks alone
set_option linter.unusedVariables false
set_option linter.unusedSimpArgs false


-- the values' own types
/-! #### struct type 34 -/
/-! #### struct type 78 -/
/-! #### struct type 92 -/
/-! #### struct type 84 -/
/-! #### struct type 97 -/
/-! #### struct type 99 -/
/-! #### struct type 44 -/
/-! #### struct type 86 -/
end Go.Proofs.Ytenhigpeafaidaa.T
-- Rg
namespace Go.Proofs.Ytenhigpeafaidaa.Wire
open Go
set_option linter.unusedVariables false
section
variable {P : Program} {ops : Array Oper} {Q : Exit → Act → World → Prop} {md : Region.Mode} {S S' : World → Prop}
/-- The condition on the world may be made stronger on the way. -/
theorem wpAnyH_strong (hs : ∀ w, S' w → S w) : ∀ {fuel : Nat} {listed : Array Bool} {a : Act} {w : World}, wpAnyH P md ops Q S' fuel listed a w → wpAnyH P md ops Q S fuel listed a w
 | 0, _, _, _, h => h
 | fuel + 1, _, _, _, h => ⟨h.1, fun i hi => wpOp_mono (fun a' w' h' => ⟨hs _ h'.1, wpAnyH_strong hs h'.2⟩) (h.2 i hi)⟩
theorem ready_some {listed : Array Bool} {i : Nat} (h : i ∈ Region.ready md ops listed) : ∃ o, ops[i]? = some o := by
 obtain ⟨_, o, ho, _⟩ := mem_ready.1 h; exact ⟨o, ho⟩
/-- Take number i first; the operation is handed over with its own text. -/
theorem wpAnyH_takeG {i : Nat} {fuel : Nat} {listed : Array Bool} {a : Act} {w : World}
  (hs : Region.noSelect ops = true) (hf : Region.free md ops listed i = true) (hr : (Region.ready md ops listed).contains i = true)
  (hQ : ∀ c (a : Act) d v w, Q (.panic c) (a.put d v) w → Q (.panic c) a w) (hS : S w)
  (h : ∀ oi, ops[i]? = some oi → ∃ v, Region.wanted oi (yielded ops a.tmps) = true ∧ (∀ w, S w → (execOp a.eval oi).run P w = .ok (.value v) w) ∧ wpAnyH P md ops Q S fuel (listed.setIfInBounds i true) (a.put oi.dst v) w) : wpAnyH P md ops Q S (fuel + 1) listed a w := by
 obtain ⟨o, ho⟩ := ready_some (i := i) (by simpa using hr)
 obtain ⟨v, h1, h2, h3⟩ := h o ho
 exact wpAnyH_take ho hs hf hr (fun c a w => hQ c a _ _ w) (.inl ⟨h1, h2⟩) hS h3
/-- The same for one that is not wanted. -/
theorem wpAnyH_offG {i : Nat} {fuel : Nat} {listed : Array Bool} {a : Act} {w : World}
  (hs : Region.noSelect ops = true) (hf : Region.free md ops listed i = true) (hr : (Region.ready md ops listed).contains i = true)
  (hQ : ∀ c (a : Act) d v w, Q (.panic c) (a.put d v) w → Q (.panic c) a w) (hS : S w)
  (h : ∀ oi, ops[i]? = some oi → Region.wanted oi (yielded ops a.tmps) = false ∧ wpAnyH P md ops Q S fuel (listed.setIfInBounds i true) (a.put oi.dst undef) w) : wpAnyH P md ops Q S (fuel + 1) listed a w := by
 obtain ⟨o, ho⟩ := ready_some (i := i) (by simpa using hr)
 obtain ⟨h1, h3⟩ := h o ho
 exact wpAnyH_take ho hs hf hr (fun c a w => hQ c a _ _ w) (.inr ⟨h1, rfl⟩) hS h3
/-- The one operation that may come up. -/
theorem wpAnyH_oneG {i : Nat} {fuel : Nat} {listed : Array Bool} {a : Act} {w : World} (hr : Region.ready md ops listed = [i])
  (h : ∀ oi, ops[i]? = some oi → ∀ K' : Act → World → Prop, Shut (∀ a w, S w → (S w → wpAnyH P md ops Q S fuel (listed.setIfInBounds i true) a w) → K' a w) → if Region.wanted oi (yielded ops a.tmps) = true then Oper.wp P oi a w K' Q else K' (a.put oi.dst undef) w) :
  wpAnyH P md ops Q S (fuel + 1) listed a w := by
 obtain ⟨o, ho⟩ := ready_some (md := md) (ops := ops) (listed := listed) (i := i) (by rw [hr]; simp)
 exact wpAnyH_ready hr (by simp) (AllReadyH.cons ho (h o ho) AllReadyH.nil)
end
section
open Go.Proofs.YtenhigpeafaidaaW.PrintLast
variable {P : Program} {ops : Array Oper} {Q : Exit → Act → World → Prop} {md : Region.Mode} {S : World → Prop} {ds : List Nat}
/-- The same three moves where some operations come last, behind which nothing is shown. -/
theorem lastTakeG {i : Nat} {fuel : Nat} {listed : Array Bool} {a : Act} {w : World}
  (hs : Region.noSelect ops = true) (hf : Region.free md ops listed i = true) (hr : (Region.ready md ops listed).contains i = true) (hc : Region.closedB md ops listed = true) (hl : Region.lastB md ops listed ds i = true)
  (hQ : ∀ c (a : Act) d v w, Q (.panic c) (a.put d v) w → Q (.panic c) a w) (hS : S w)
  (h : ∀ oi, ops[i]? = some oi → ∃ v, Region.wanted oi (yielded ops a.tmps) = true ∧ (∀ w, S w → (execOp a.eval oi).run P w = .ok (.value v) w) ∧ wpAnyLast P md ops Q S ds fuel (listed.setIfInBounds i true) (a.put oi.dst v) w) : wpAnyLast P md ops Q S ds (fuel + 1) listed a w := by
 obtain ⟨o, ho⟩ := ready_some (i := i) (by simpa using hr)
 obtain ⟨v, h1, h2, h3⟩ := h o ho
 exact wpAnyLast_take ho hs hf hr hc hl (fun c a w => hQ c a _ _ w) (.inl ⟨h1, h2⟩) hS h3
theorem lastLastG {i : Nat} {fuel : Nat} {listed : Array Bool} {a : Act} {w : World} (hr : Region.ready md ops listed = [i]) (hd : i ∈ ds)
  (h : ∀ oi, ops[i]? = some oi → ∀ K' : Act → World → Prop, Shut (∀ a w, wpAnyLast P md ops Q S ds fuel (listed.setIfInBounds i true) a w → K' a w) → if Region.wanted oi (yielded ops a.tmps) = true then Oper.wp P oi a w K' Q else K' (a.put oi.dst undef) w) :
  wpAnyLast P md ops Q S ds (fuel + 1) listed a w := by
 obtain ⟨o, ho⟩ := ready_some (md := md) (ops := ops) (listed := listed) (i := i) (by rw [hr]; simp)
 exact wpAnyLast_ready hr (by simp) (AllReadyL.cons_last ho hd (h o ho) AllReadyL.nil)
end
end Go.Proofs.Ytenhigpeafaidaa.Wire
-- Wa
namespace Go.Proofs.Ytenhigpeafaidaa.Wire
open Go.RowKit Go.Proofs.YtenhigpeafaidaaW.PrintWords Go.Proofs.YtenhigpeafaidaaW.PrintLast Go.Proofs.YtenhigpeafaidaaW.PrintMore
set_option linter.unusedVariables false
set_option linter.unusedSimpArgs false

end Go.Proofs.Ytenhigpeafaidaa.Wire
-- Wb
namespace Go.Proofs.Ytenhigpeafaidaa.Wire
open Go.RowKit Go.Proofs.YtenhigpeafaidaaW.PrintWords Go.Proofs.YtenhigpeafaidaaW.PrintLast Go.Proofs.YtenhigpeafaidaaW.PrintMore
set_option linter.unusedVariables false
set_option linter.unusedSimpArgs false

end Go.Proofs.Ytenhigpeafaidaa.Wire
-- Wp
namespace Go.Proofs.Ytenhigpeafaidaa.Wire
open Go.RowKit Go.Proofs.YtenhigpeafaidaaW.PrintWords Go.Proofs.YtenhigpeafaidaaW.PrintLast Go.Proofs.YtenhigpeafaidaaW.PrintMore
set_option linter.unusedVariables false
set_option linter.unusedSimpArgs false

end Go.Proofs.Ytenhigpeafaidaa.Wire
-- Wc
namespace Go.Proofs.Ytenhigpeafaidaa.Wire
open Go.RowKit Go.Proofs.YtenhigpeafaidaaW.PrintWords Go.Proofs.YtenhigpeafaidaaW.PrintLast Go.Proofs.YtenhigpeafaidaaW.PrintMore
set_option linter.unusedVariables false
set_option linter.unusedSimpArgs false

end Go.Proofs.Ytenhigpeafaidaa.Wire
-- Wd
namespace Go.Proofs.Ytenhigpeafaidaa.Wire
open Go.RowKit Go.Proofs.YtenhigpeafaidaaW.PrintWords Go.Proofs.YtenhigpeafaidaaW.PrintLast Go.Proofs.YtenhigpeafaidaaW.PrintMore
set_option linter.unusedVariables false
set_option linter.unusedSimpArgs false

theorem C_none {k : IntKind} {w w' : World} {A : Option Addr} {n : Nat} {xs : List Int} (h : (Kd.int k).C w A n xs) (hk : Kept w w' (fun _ => False)) : (Kd.int k).C w' A n xs :=
 (Kd.heap_int k).C (fun i hlt => hk.2 i hlt id) h

/-- The cell of an element of a row that is read. -/
theorem C_at {kd : IntKind} {w : World} {A : Option Addr} {n : Nat} {xs : List Int} (h : (Kd.int kd).C w A n xs) (k : Nat) (hk : k < n) : ∃ ad, A = some ad ∧ w.cell? (ad.add k) = some (.int kd (xs.getD k 0)) := by
 obtain ⟨ad, e, hc⟩ := (Kd.reads_of_C (d := (0 : Int)) h).at_ (k : Int) (by omega) (by omega)
 exact ⟨ad, e, by rw [Int.toNat_natCast] at hc; rw [hc]; simp [rdOf]⟩

end Go.Proofs.Ytenhigpeafaidaa.Wire
-- We
namespace Go.Proofs.Ytenhigpeafaidaa.Wire
open Go.RowKit Go.Proofs.YtenhigpeafaidaaW.PrintWords Go.Proofs.YtenhigpeafaidaaW.PrintLast Go.Proofs.YtenhigpeafaidaaW.PrintMore
set_option linter.unusedVariables false
set_option linter.unusedSimpArgs false

theorem C_blk {k : IntKind} {w : World} {g t : Nat} {cs : Array Value} (h : w.heap[g]? = some (.cells cs t (0, 0))) (xs : List Int) (hc : cs.toList = xs.map (Value.int k)) (hx : xs.length ≤ 9223372036854775807) : (Kd.int k).C w (some ⟨g, 0, none⟩) xs.length xs := by
 refine Kd.C_of_reads (d := (0 : Int)) ⟨rfl, hx, fun _ => ⟨_, rfl, fun j hj => ?_⟩⟩
 rw [add_plain, blk_cell h, ← Array.getElem?_toList, hc]
 simp [List.getD, hj]

theorem below_alloc' {w0 w : World} (h : Below w0.heap.size w0 w) (o : Obj) : Below w0.heap.size w0 (w.alloc o) := h.alloc h.size o

end Go.Proofs.Ytenhigpeafaidaa.Wire
-- Wf
namespace Go.Proofs.Ytenhigpeafaidaa.Wire
open Go.RowKit Go.Proofs.YtenhigpeafaidaaW.PrintWords Go.Proofs.YtenhigpeafaidaaW.PrintLast Go.Proofs.YtenhigpeafaidaaW.PrintMore
set_option linter.unusedVariables false
set_option linter.unusedSimpArgs false

/-- What End hands back. -/
def EndPost (w0 w : World) (e : Int) (out : List Int) (r : Ending) (w' : World) : Prop :=
 ∃ v', r = .returned (.tuple #[v', .int .i64 e]) ∧ (Kd.int .u8).R 5 w' w0.heap.size (fun k => w.heap.size ≤ k) v' (if e = 0 then out else []) ∧ Below w0.heap.size w0 w' ∧ Kept w w' (fun _ => False)

theorem EndPost.after {w0 w w1 : World} {e : Int} {out : List Int} {r : Ending} {w' : World} (hk : Kept w w1 (fun _ => False)) (h : EndPost w0 w1 e out r w') : EndPost w0 w e out r w' := by
 obtain ⟨v', hr, hO, hB, hK⟩ := h
 exact ⟨v', hr, Kd.R_mono hO (fun k h => Nat.le_trans hk.1 h), hB, hk.then_ hK (fun _ h => h.elim)⟩

end Go.Proofs.Ytenhigpeafaidaa.Wire
-- Wg
namespace Go.Proofs.Ytenhigpeafaidaa.Wire
open Go.RowKit Go.Proofs.YtenhigpeafaidaaW.PrintWords Go.Proofs.YtenhigpeafaidaaW.PrintLast Go.Proofs.YtenhigpeafaidaaW.PrintMore
set_option linter.unusedVariables false
set_option linter.unusedSimpArgs false

end Go.Proofs.Ytenhigpeafaidaa.Wire
-- Wh
namespace Go.Proofs.Ytenhigpeafaidaa.Wire
open Go.RowKit Go.Proofs.YtenhigpeafaidaaW.PrintWords Go.Proofs.YtenhigpeafaidaaW.PrintLast Go.Proofs.YtenhigpeafaidaaW.PrintMore
set_option linter.unusedVariables false
set_option linter.unusedSimpArgs false

end Go.Proofs.Ytenhigpeafaidaa.Wire
-- Wi
namespace Go.Proofs.Ytenhigpeafaidaa.Wire
open Go.RowKit Go.Proofs.YtenhigpeafaidaaW.PrintWords Go.Proofs.YtenhigpeafaidaaW.PrintLast Go.Proofs.YtenhigpeafaidaaW.PrintMore
set_option linter.unusedVariables false
set_option linter.unusedSimpArgs false

theorem and_one (n : Int) (h0 : 0 ≤ n) (h1 : n < 18446744073709551616) : Go.bits .and .u64 n 1 = n % 2 := by
 obtain ⟨m, rfl⟩ := Int.eq_ofNat_of_zero_le h0
 have := u64_and_nat m 1 (by omega) (by omega)
 rw [nat_mask1] at this
 rw [show (1 : Int) = ((1 : Nat) : Int) from rfl, this]; omega

end Go.Proofs.Ytenhigpeafaidaa.Wire
-- Wj
namespace Go.Proofs.Ytenhigpeafaidaa.Wire
open Go.RowKit Go.Proofs.YtenhigpeafaidaaW.PrintWords Go.Proofs.YtenhigpeafaidaaW.PrintLast Go.Proofs.YtenhigpeafaidaaW.PrintMore
set_option linter.unusedVariables false
set_option linter.unusedSimpArgs false

/-- A variable that holds a limit. -/
def LimAt (w : World) (bl : Nat) (limit : Int) : Prop := w.heap[bl]? = some (.cells #[.int .i64 limit] 3 (0, 0))

end Go.Proofs.Ytenhigpeafaidaa.Wire
-- Wk
namespace Go.Proofs.Ytenhigpeafaidaa.Wire
open Go.RowKit Go.Proofs.YtenhigpeafaidaaW.PrintWords Go.Proofs.YtenhigpeafaidaaW.PrintLast Go.Proofs.YtenhigpeafaidaaW.PrintMore
set_option linter.unusedVariables false
set_option linter.unusedSimpArgs false

theorem LimAt.kept {w w' : World} {bl : Nat} {n : Int} {S : Nat → Prop} (h : LimAt w bl n) (hk : Kept w w' S) (hne : ¬ S bl) : LimAt w' bl n := blk_kept h hk hne
end Go.Proofs.Ytenhigpeafaidaa.Wire
-- Wl
namespace Go.Proofs.Ytenhigpeafaidaa.Wire
open Go.RowKit Go.Proofs.YtenhigpeafaidaaW.PrintWords Go.Proofs.YtenhigpeafaidaaW.PrintLast Go.Proofs.YtenhigpeafaidaaW.PrintMore
set_option linter.unusedVariables false
set_option linter.unusedSimpArgs false

theorem infoI : (Try.prog.info? 3).map (fun i => (i.zero, i.size, i.bytes)) = some (some (.int .i64 0), 1, 8) := by kernel_rfl

end Go.Proofs.Ytenhigpeafaidaa.Wire
-- Ri
namespace Go.Proofs.Ytenhigpeafaidaa.Q
open Go.RowKit Go.Proofs.YtenhigpeafaidaaW.PrintWords Go.Proofs.YtenhigpeafaidaaW.PrintLast Go.Proofs.YtenhigpeafaidaaW.PrintMore
set_option linter.unusedVariables false
set_option linter.unusedSimpArgs false

/-- Are the elements valid and strictly increasing, behind one that came before? -/
def risB {α : Type} (v : α → Bool) (o : α → α → Int) : Option α → List α → Bool
 | _, [] => true
 | none, x :: r => v x && risB v o (some x) r
 | some p, x :: r => v x && (decide (o p x < 0) && risB v o (some x) r)
def prevOf {α : Type} (z : α) (l : List α) : Nat → Option α
 | 0 => none
 | k + 1 => some (l.getD k z)
theorem risB_step {α : Type} (v : α → Bool) (o : α → α → Int) (z : α) (l : List α) (k : Nat) (h : k < l.length) : risB v o (prevOf z l k) (l.drop k) = (v (l.getD k z) && (match prevOf z l k with | none => risB v o (some (l.getD k z)) (l.drop (k + 1)) | some p => (decide (o p (l.getD k z) < 0) && risB v o (some (l.getD k z)) (l.drop (k + 1))))) := by
 have e : l[k] = l.getD k z := by simp [List.getD, h]
 rw [List.drop_eq_getElem_cons h, e]
 cases prevOf z l k <;> rfl
end Go.Proofs.Ytenhigpeafaidaa.Q
-- RiPair
namespace Go.Proofs.Ytenhigpeafaidaa.Q
open Go.RowKit Go.Proofs.YtenhigpeafaidaaW.PrintWords Go.Proofs.YtenhigpeafaidaaW.PrintLast Go.Proofs.YtenhigpeafaidaaW.PrintMore Go.Proofs.Ytenhigpeafaidaa.Wire
set_option linter.unusedVariables false
set_option linter.unusedSimpArgs false

theorem heap_Pair : Kd.Heap k84 := Kd.heap_iso _ (Kd.heap_pair (Kd.heap_int .i64) (Kd.heap_pair (Kd.heap_int .i64) (Kd.heap_pair (Kd.heap_int .i64) (Kd.heap_pair (Kd.heap_int .i64) (Kd.heap_int .i64)))))
theorem C_nonePair {w w' : World} {A : Option Addr} {n : Nat} {xs : List S84} (h : Kd.C k84 w A n xs) (hk : Kept w w' (fun _ => False)) : Kd.C k84 w' A n xs := heap_Pair.C (fun i hlt => hk.2 i hlt id) h
set_option maxHeartbeats 8000000 in
set_option maxRecDepth 100000 in
theorem risingPair_calls (w0 w : World) (f1 f2 : FuncId) (v : S84 → Bool) (o : S84 → S84 → Int) (A : Option Addr) (c : Nat) (l : List S84)
  (hv : ∀ (W : World) (x : S84), Below w0.heap.size w0 W → Calls Try.prog f1 #[.agg #[.int .i64 x.f0, .int .i64 x.f1, .int .i64 x.f2, .int .i64 x.f3, .int .i64 x.f4]] W (fun r w' => r = .returned (.bool (v x)) ∧ Below w0.heap.size w0 w' ∧ Kept W w' (fun _ => False)))
  (ho : ∀ (W : World) (x y : S84), v x = true → v y = true → Below w0.heap.size w0 W → Calls Try.prog f2 #[.agg #[.int .i64 x.f0, .int .i64 x.f1, .int .i64 x.f2, .int .i64 x.f3, .int .i64 x.f4], .agg #[.int .i64 y.f0, .int .i64 y.f1, .int .i64 y.f2, .int .i64 y.f3, .int .i64 y.f4]] W (fun r w' => r = .returned (.int .i64 (o x y)) ∧ Below w0.heap.size w0 w' ∧ Kept W w' (fun _ => False)))
  (hen1 : ∀ (w : World) (a : Value), (callFunc f1 #[a]).run Try.prog w = .ok (.enter f1 #[a]) w) (hen2 : ∀ (w : World) (a b : Value), (callFunc f2 #[a, b]).run Try.prog w = .ok (.enter f2 #[a, b]) w)
  (hB : Below w0.heap.size w0 w) (hC : Kd.C k84 w A l.length l) (hl : l.length ≤ 100000000) :
  Calls Try.prog 64 #[.slice A l.length c, .func (.func f1) #[] #[], .func (.func f2) #[] #[]] w (fun r w' => r = .returned (.bool (risB v o none l)) ∧ Below w0.heap.size w0 w' ∧ Kept w w' (fun _ => False)) := by
 have HB := Lib.hid hB
 have HC := Lib.hid hC
 have HV0 := Lib.hid hv
 have HO0 := Lib.hid ho
 have HE1 := Lib.hid hen1
 have HE2 := Lib.hid hen2
 obtain ⟨vb, hvb⟩ : ∃ vb, risB v o none l = vb := ⟨_, rfl⟩
 have HVB := Lib.hid hvb
 rw [hvb]
 clear hB hC hvb hv ho hen1 hen2
 go_enter Try.func64, Try.ntmps64
 go_wp2_with fail
 go_loopg [11] l.length (fun g v11 w' => ∃ k : Nat, v11 = .int .i64 k ∧ k ≤ l.length ∧ Aside0 (g + k = l.length) ∧ Aside0 (vb = risB v o (prevOf z84 l k) (l.drop k)) ∧ Aside0 (∀ j, j < k → v (l.getD j z84) = true) ∧ Aside0 (Kept w w' (fun _ => False)) ∧ Aside0 (Below w0.heap.size w0 w'))
 case atStart => exact ⟨0, rfl, Nat.zero_le _, ⟨rfl⟩, ⟨HVB.out.symm⟩, ⟨fun j hj => by omega⟩, ⟨Kept.refl _ _⟩, ⟨HB.out⟩⟩
 case round =>
  obtain ⟨k, rfl, hk, HM, HV, HAll, HK, HBr⟩ := hrel
  by_cases h : k < l.length
  ·
   have q1 : decide ((k : Int) < (l.length : Int)) = true := decide_eq_true (by omega)
   have HVS := Lib.hid (HV.out.trans (risB_step v o z84 l k h))
   have HCr := Lib.hid (C_nonePair HC.out HK.out)
   obtain ⟨ad, hA, e0, e1, e2, e3, e4⟩ := at_T84 HCr.out (k : Int) (by omega) (by omega)
   rw [show rd_T84 l (k : Int) = l.getD k z84 by simp [rd_T84]] at e0 e1 e2 e3 e4
   simp only [Int.toNat_natCast] at e0 e1 e2 e3 e4
   obtain ⟨x, hx⟩ : ∃ x, l.getD k z84 = x := ⟨_, rfl⟩
   rw [hx] at e0 e1 e2 e3 e4 HVS
   subst hA
   obtain ⟨W1, hW1⟩ : ∃ W1, W1 = wr.alloc (.cells #[.int .i64 x.f0, .int .i64 x.f1, .int .i64 x.f2, .int .i64 x.f3, .int .i64 x.f4] 84) := ⟨_, rfl⟩
   have HB1 := Lib.hid (show Below w0.heap.size w0 W1 by rw [hW1]; exact below_alloc' HBr.out _)
   have HK1 := Lib.hid (show Kept wr W1 (fun _ => False) by rw [hW1]; exact (Kept.refl _ _).alloc _)
   have HG1 := Lib.hid (show W1.heap[wr.heap.size]? = some (.cells #[.int .i64 x.f0, .int .i64 x.f1, .int .i64 x.f2, .int .i64 x.f3, .int .i64 x.f4] 84 (0, 0)) by rw [hW1]; exact blk_new _ _)
   have HVV := Lib.hid (fun W (hk : Kept W1 W (fun _ => False)) (hb : Below w0.heap.size w0 W) => HV0.out W x hb)
   have HW1 := Lib.hid hW1.symm
   have HXX := Lib.hid hx
   clear hW1
   have hk0 : 0 ≤ (k : Int) := by omega
   have he1 := HE1.out
   have he2 := HE2.out
   obtain ⟨vx, hvx⟩ : ∃ vx, v x = vx := ⟨_, rfl⟩
   have HVX := Lib.hid hvx
   rw [hvx] at HVV HVS
   clear hvx
   cases vx with
   | false =>
     have HE := Lib.hid (show vb = false by rw [HVS.out]; cases prevOf z84 l k <;> rfl)
     clear hx he2
     go_wp2_with fail
     rw [HW1.out]
     refine wp_region_noPanic ?_
     refine wp_region_held_drew (S := fun W => Kept W1 W (fun _ => False) ∧ Below w0.heap.size w0 W) (by kernel_rfl) ⟨(Kept.refl _ _).drew, below_drew HB1.out⟩ (fun hS => ?_)
     (refine wpAnyH_takeG (i := 0) (by kernel_rfl) (by kernel_rfl) (by kernel_rfl) (fun _ _ _ _ _ h => h) hS ?_; intro oi hoi; simp only [List.getElem?_toArray, List.getElem?_cons_succ, List.getElem?_cons_zero] at hoi; cases hoi; refine ⟨?_, by rfl, ?_, ?_⟩; rotate_left; (focus (intro wS hSw; skip; go_simp; (first | done | with_reducible rfl))); (try simp only [Act.put, List.setIfInBounds_toArray, List.set_cons_zero, List.set_cons_succ]))
     (refine wpAnyH_takeG (i := 1) (by kernel_rfl) (by kernel_rfl) (by kernel_rfl) (fun _ _ _ _ _ h => h) hS ?_; intro oi hoi; simp only [List.getElem?_toArray, List.getElem?_cons_succ, List.getElem?_cons_zero] at hoi; cases hoi; refine ⟨?_, by rfl, ?_, ?_⟩; rotate_left; (focus (intro wS hSw; have g0 := (blk_cell (blk_kept HG1.out hSw.1 id) 0).trans rfl; have g1 := (blk_cell (blk_kept HG1.out hSw.1 id) 1).trans rfl; have g2 := (blk_cell (blk_kept HG1.out hSw.1 id) 2).trans rfl; have g3 := (blk_cell (blk_kept HG1.out hSw.1 id) 3).trans rfl; have g4 := (blk_cell (blk_kept HG1.out hSw.1 id) 4).trans rfl; go_simp; (first | done | with_reducible rfl))); (try simp only [Act.put, List.setIfInBounds_toArray, List.set_cons_zero, List.set_cons_succ]))
     (refine wpAnyH_oneG (i := 2) (by kernel_rfl) ?_; intro oi hoi K' hK; simp only [List.getElem?_toArray, List.getElem?_cons_succ, List.getElem?_cons_zero] at hoi; cases hoi; go_simp; refine (HVV.out _ hS.1 hS.2).mono ?_; rintro r w2 ⟨rfl, hB2, hK2⟩; have HB2 := Lib.hid hB2; have HK2 := Lib.hid (hS.1.then_ hK2 (fun _ h => h.elim)); clear hB2 hK2; go_wp2_with fail)
     (refine hK.out _ _ ?_ (fun hS => ?_); (focus (exact ⟨HK2.out, HB2.out⟩)); clear hK K'; (try simp only [Act.put, List.setIfInBounds_toArray, List.set_cons_zero, List.set_cons_succ]))
     (refine wpAnyH_takeG (i := 3) (by kernel_rfl) (by kernel_rfl) (by kernel_rfl) (fun _ _ _ _ _ h => h) hS ?_; intro oi hoi; simp only [List.getElem?_toArray, List.getElem?_cons_succ, List.getElem?_cons_zero] at hoi; cases hoi; refine ⟨?_, by rfl, ?_, ?_⟩; rotate_left; (focus (intro wS hSw; skip; go_simp; (first | done | with_reducible rfl))); (try simp only [Act.put, List.setIfInBounds_toArray, List.set_cons_zero, List.set_cons_succ])); (refine wpAnyH_takeG (i := 4) (by kernel_rfl) (by kernel_rfl) (by kernel_rfl) (fun _ _ _ _ _ h => h) hS ?_; intro oi hoi; simp only [List.getElem?_toArray, List.getElem?_cons_succ, List.getElem?_cons_zero] at hoi; cases hoi; refine ⟨?_, by rfl, ?_, ?_⟩; rotate_left; (focus (intro wS hSw; skip; go_simp; (first | done | with_reducible rfl))); (try simp only [Act.put, List.setIfInBounds_toArray, List.set_cons_zero, List.set_cons_succ])); (refine wpAnyH_offG (i := 5) (by kernel_rfl) (by kernel_rfl) (by kernel_rfl) (fun _ _ _ _ _ h => h) hS ?_; intro oi hoi; simp only [List.getElem?_toArray, List.getElem?_cons_succ, List.getElem?_cons_zero] at hoi; cases hoi; refine ⟨by rfl, ?_⟩; (try simp only [Act.put, List.setIfInBounds_toArray, List.set_cons_zero, List.set_cons_succ])); (refine wpAnyH_offG (i := 6) (by kernel_rfl) (by kernel_rfl) (by kernel_rfl) (fun _ _ _ _ _ h => h) hS ?_; intro oi hoi; simp only [List.getElem?_toArray, List.getElem?_cons_succ, List.getElem?_cons_zero] at hoi; cases hoi; refine ⟨by rfl, ?_⟩; (try simp only [Act.put, List.setIfInBounds_toArray, List.set_cons_zero, List.set_cons_succ])); (refine wpAnyH_offG (i := 7) (by kernel_rfl) (by kernel_rfl) (by kernel_rfl) (fun _ _ _ _ _ h => h) hS ?_; intro oi hoi; simp only [List.getElem?_toArray, List.getElem?_cons_succ, List.getElem?_cons_zero] at hoi; cases hoi; refine ⟨by rfl, ?_⟩; (try simp only [Act.put, List.setIfInBounds_toArray, List.set_cons_zero, List.set_cons_succ])); (refine wpAnyH_offG (i := 8) (by kernel_rfl) (by kernel_rfl) (by kernel_rfl) (fun _ _ _ _ _ h => h) hS ?_; intro oi hoi; simp only [List.getElem?_toArray, List.getElem?_cons_succ, List.getElem?_cons_zero] at hoi; cases hoi; refine ⟨by rfl, ?_⟩; (try simp only [Act.put, List.setIfInBounds_toArray, List.set_cons_zero, List.set_cons_succ])); (refine wpAnyH_offG (i := 9) (by kernel_rfl) (by kernel_rfl) (by kernel_rfl) (fun _ _ _ _ _ h => h) hS ?_; intro oi hoi; simp only [List.getElem?_toArray, List.getElem?_cons_succ, List.getElem?_cons_zero] at hoi; cases hoi; refine ⟨by rfl, ?_⟩; (try simp only [Act.put, List.setIfInBounds_toArray, List.set_cons_zero, List.set_cons_succ])); (refine wpAnyH_offG (i := 10) (by kernel_rfl) (by kernel_rfl) (by kernel_rfl) (fun _ _ _ _ _ h => h) hS ?_; intro oi hoi; simp only [List.getElem?_toArray, List.getElem?_cons_succ, List.getElem?_cons_zero] at hoi; cases hoi; refine ⟨by rfl, ?_⟩; (try simp only [Act.put, List.setIfInBounds_toArray, List.set_cons_zero, List.set_cons_succ])); (refine wpAnyH_offG (i := 11) (by kernel_rfl) (by kernel_rfl) (by kernel_rfl) (fun _ _ _ _ _ h => h) hS ?_; intro oi hoi; simp only [List.getElem?_toArray, List.getElem?_cons_succ, List.getElem?_cons_zero] at hoi; cases hoi; refine ⟨by rfl, ?_⟩; (try simp only [Act.put, List.setIfInBounds_toArray, List.set_cons_zero, List.set_cons_succ])); (refine wpAnyH_offG (i := 12) (by kernel_rfl) (by kernel_rfl) (by kernel_rfl) (fun _ _ _ _ _ h => h) hS ?_; intro oi hoi; simp only [List.getElem?_toArray, List.getElem?_cons_succ, List.getElem?_cons_zero] at hoi; cases hoi; refine ⟨by rfl, ?_⟩; (try simp only [Act.put, List.setIfInBounds_toArray, List.set_cons_zero, List.set_cons_succ])); (refine wpAnyH_offG (i := 13) (by kernel_rfl) (by kernel_rfl) (by kernel_rfl) (fun _ _ _ _ _ h => h) hS ?_; intro oi hoi; simp only [List.getElem?_toArray, List.getElem?_cons_succ, List.getElem?_cons_zero] at hoi; cases hoi; refine ⟨by rfl, ?_⟩; (try simp only [Act.put, List.setIfInBounds_toArray, List.set_cons_zero, List.set_cons_succ])); (refine wpAnyH_offG (i := 14) (by kernel_rfl) (by kernel_rfl) (by kernel_rfl) (fun _ _ _ _ _ h => h) hS ?_; intro oi hoi; simp only [List.getElem?_toArray, List.getElem?_cons_succ, List.getElem?_cons_zero] at hoi; cases hoi; refine ⟨by rfl, ?_⟩; (try simp only [Act.put, List.setIfInBounds_toArray, List.set_cons_zero, List.set_cons_succ])); (refine wpAnyH_offG (i := 15) (by kernel_rfl) (by kernel_rfl) (by kernel_rfl) (fun _ _ _ _ _ h => h) hS ?_; intro oi hoi; simp only [List.getElem?_toArray, List.getElem?_cons_succ, List.getElem?_cons_zero] at hoi; cases hoi; refine ⟨by rfl, ?_⟩; (try simp only [Act.put, List.setIfInBounds_toArray, List.set_cons_zero, List.set_cons_succ])); (refine wpAnyH_offG (i := 16) (by kernel_rfl) (by kernel_rfl) (by kernel_rfl) (fun _ _ _ _ _ h => h) hS ?_; intro oi hoi; simp only [List.getElem?_toArray, List.getElem?_cons_succ, List.getElem?_cons_zero] at hoi; cases hoi; refine ⟨by rfl, ?_⟩; (try simp only [Act.put, List.setIfInBounds_toArray, List.set_cons_zero, List.set_cons_succ])); (refine wpAnyH_offG (i := 17) (by kernel_rfl) (by kernel_rfl) (by kernel_rfl) (fun _ _ _ _ _ h => h) hS ?_; intro oi hoi; simp only [List.getElem?_toArray, List.getElem?_cons_succ, List.getElem?_cons_zero] at hoi; cases hoi; refine ⟨by rfl, ?_⟩; (try simp only [Act.put, List.setIfInBounds_toArray, List.set_cons_zero, List.set_cons_succ])); (refine wpAnyH_takeG (i := 18) (by kernel_rfl) (by kernel_rfl) (by kernel_rfl) (fun _ _ _ _ _ h => h) hS ?_; intro oi hoi; simp only [List.getElem?_toArray, List.getElem?_cons_succ, List.getElem?_cons_zero] at hoi; cases hoi; refine ⟨?_, by rfl, ?_, ?_⟩; rotate_left; (focus (intro wS hSw; skip; go_simp; (first | done | with_reducible rfl))); (try simp only [Act.put, List.setIfInBounds_toArray, List.set_cons_zero, List.set_cons_succ]))
     refine wpAnyH_done (by kernel_rfl) ?_ _
     refine NoPanic.normal ?_
     go_wp2_with fail
     go_ret
     exact ⟨by rw [HE.out]; rfl, HB2.out, HK.out.then_ (HK1.out.then_ HK2.out (fun _ h => h.elim)) (fun _ h => h.elim)⟩
   | true =>
    cases k with
    | zero =>
     have HE := Lib.hid (show vb = risB v o (some x) (l.drop 1) by rw [HVS.out]; rfl)
     clear hx he2
     have ez : ad.add (0 * 5) = ad := by rw [Nat.zero_mul]; exact Addr.add_zero' ad
     rw [ez] at e0 e1 e2 e3 e4
     clear ez
     go_wp2_with fail
     rw [HW1.out]
     refine wp_region_noPanic ?_
     refine wp_region_held_drew (S := fun W => Kept W1 W (fun _ => False) ∧ Below w0.heap.size w0 W) (by kernel_rfl) ⟨(Kept.refl _ _).drew, below_drew HB1.out⟩ (fun hS => ?_)
     (refine wpAnyH_takeG (i := 0) (by kernel_rfl) (by kernel_rfl) (by kernel_rfl) (fun _ _ _ _ _ h => h) hS ?_; intro oi hoi; simp only [List.getElem?_toArray, List.getElem?_cons_succ, List.getElem?_cons_zero] at hoi; cases hoi; refine ⟨?_, by rfl, ?_, ?_⟩; rotate_left; (focus (intro wS hSw; skip; go_simp; (first | done | with_reducible rfl))); (try simp only [Act.put, List.setIfInBounds_toArray, List.set_cons_zero, List.set_cons_succ]))
     (refine wpAnyH_takeG (i := 1) (by kernel_rfl) (by kernel_rfl) (by kernel_rfl) (fun _ _ _ _ _ h => h) hS ?_; intro oi hoi; simp only [List.getElem?_toArray, List.getElem?_cons_succ, List.getElem?_cons_zero] at hoi; cases hoi; refine ⟨?_, by rfl, ?_, ?_⟩; rotate_left; (focus (intro wS hSw; have g0 := (blk_cell (blk_kept HG1.out hSw.1 id) 0).trans rfl; have g1 := (blk_cell (blk_kept HG1.out hSw.1 id) 1).trans rfl; have g2 := (blk_cell (blk_kept HG1.out hSw.1 id) 2).trans rfl; have g3 := (blk_cell (blk_kept HG1.out hSw.1 id) 3).trans rfl; have g4 := (blk_cell (blk_kept HG1.out hSw.1 id) 4).trans rfl; go_simp; (first | done | with_reducible rfl))); (try simp only [Act.put, List.setIfInBounds_toArray, List.set_cons_zero, List.set_cons_succ]))
     (refine wpAnyH_oneG (i := 2) (by kernel_rfl) ?_; intro oi hoi K' hK; simp only [List.getElem?_toArray, List.getElem?_cons_succ, List.getElem?_cons_zero] at hoi; cases hoi; go_simp; refine (HVV.out _ hS.1 hS.2).mono ?_; rintro r w2 ⟨rfl, hB2, hK2⟩; have HB2 := Lib.hid hB2; have HK2 := Lib.hid (hS.1.then_ hK2 (fun _ h => h.elim)); clear hB2 hK2; go_wp2_with fail)
     (refine hK.out _ _ ?_ (fun hS => ?_); (focus (exact ⟨HK2.out, HB2.out⟩)); clear hK K'; (try simp only [Act.put, List.setIfInBounds_toArray, List.set_cons_zero, List.set_cons_succ]))
     (refine wpAnyH_takeG (i := 3) (by kernel_rfl) (by kernel_rfl) (by kernel_rfl) (fun _ _ _ _ _ h => h) hS ?_; intro oi hoi; simp only [List.getElem?_toArray, List.getElem?_cons_succ, List.getElem?_cons_zero] at hoi; cases hoi; refine ⟨?_, by rfl, ?_, ?_⟩; rotate_left; (focus (intro wS hSw; skip; go_simp; (first | done | with_reducible rfl))); (try simp only [Act.put, List.setIfInBounds_toArray, List.set_cons_zero, List.set_cons_succ])); (refine wpAnyH_takeG (i := 4) (by kernel_rfl) (by kernel_rfl) (by kernel_rfl) (fun _ _ _ _ _ h => h) hS ?_; intro oi hoi; simp only [List.getElem?_toArray, List.getElem?_cons_succ, List.getElem?_cons_zero] at hoi; cases hoi; refine ⟨?_, by rfl, ?_, ?_⟩; rotate_left; (focus (intro wS hSw; skip; go_simp; (first | done | with_reducible rfl))); (try simp only [Act.put, List.setIfInBounds_toArray, List.set_cons_zero, List.set_cons_succ])); (refine wpAnyH_takeG (i := 5) (by kernel_rfl) (by kernel_rfl) (by kernel_rfl) (fun _ _ _ _ _ h => h) hS ?_; intro oi hoi; simp only [List.getElem?_toArray, List.getElem?_cons_succ, List.getElem?_cons_zero] at hoi; cases hoi; refine ⟨?_, by rfl, ?_, ?_⟩; rotate_left; (focus (intro wS hSw; skip; go_simp; (first | done | with_reducible rfl))); (try simp only [Act.put, List.setIfInBounds_toArray, List.set_cons_zero, List.set_cons_succ])); (refine wpAnyH_takeG (i := 6) (by kernel_rfl) (by kernel_rfl) (by kernel_rfl) (fun _ _ _ _ _ h => h) hS ?_; intro oi hoi; simp only [List.getElem?_toArray, List.getElem?_cons_succ, List.getElem?_cons_zero] at hoi; cases hoi; refine ⟨?_, by rfl, ?_, ?_⟩; rotate_left; (focus (intro wS hSw; skip; go_simp; (first | done | with_reducible rfl))); (try simp only [Act.put, List.setIfInBounds_toArray, List.set_cons_zero, List.set_cons_succ])); (refine wpAnyH_takeG (i := 7) (by kernel_rfl) (by kernel_rfl) (by kernel_rfl) (fun _ _ _ _ _ h => h) hS ?_; intro oi hoi; simp only [List.getElem?_toArray, List.getElem?_cons_succ, List.getElem?_cons_zero] at hoi; cases hoi; refine ⟨?_, by rfl, ?_, ?_⟩; rotate_left; (focus (intro wS hSw; skip; go_simp; (first | done | with_reducible rfl))); (try simp only [Act.put, List.setIfInBounds_toArray, List.set_cons_zero, List.set_cons_succ])); (refine wpAnyH_offG (i := 8) (by kernel_rfl) (by kernel_rfl) (by kernel_rfl) (fun _ _ _ _ _ h => h) hS ?_; intro oi hoi; simp only [List.getElem?_toArray, List.getElem?_cons_succ, List.getElem?_cons_zero] at hoi; cases hoi; refine ⟨by rfl, ?_⟩; (try simp only [Act.put, List.setIfInBounds_toArray, List.set_cons_zero, List.set_cons_succ])); (refine wpAnyH_offG (i := 9) (by kernel_rfl) (by kernel_rfl) (by kernel_rfl) (fun _ _ _ _ _ h => h) hS ?_; intro oi hoi; simp only [List.getElem?_toArray, List.getElem?_cons_succ, List.getElem?_cons_zero] at hoi; cases hoi; refine ⟨by rfl, ?_⟩; (try simp only [Act.put, List.setIfInBounds_toArray, List.set_cons_zero, List.set_cons_succ])); (refine wpAnyH_offG (i := 10) (by kernel_rfl) (by kernel_rfl) (by kernel_rfl) (fun _ _ _ _ _ h => h) hS ?_; intro oi hoi; simp only [List.getElem?_toArray, List.getElem?_cons_succ, List.getElem?_cons_zero] at hoi; cases hoi; refine ⟨by rfl, ?_⟩; (try simp only [Act.put, List.setIfInBounds_toArray, List.set_cons_zero, List.set_cons_succ])); (refine wpAnyH_offG (i := 11) (by kernel_rfl) (by kernel_rfl) (by kernel_rfl) (fun _ _ _ _ _ h => h) hS ?_; intro oi hoi; simp only [List.getElem?_toArray, List.getElem?_cons_succ, List.getElem?_cons_zero] at hoi; cases hoi; refine ⟨by rfl, ?_⟩; (try simp only [Act.put, List.setIfInBounds_toArray, List.set_cons_zero, List.set_cons_succ])); (refine wpAnyH_offG (i := 12) (by kernel_rfl) (by kernel_rfl) (by kernel_rfl) (fun _ _ _ _ _ h => h) hS ?_; intro oi hoi; simp only [List.getElem?_toArray, List.getElem?_cons_succ, List.getElem?_cons_zero] at hoi; cases hoi; refine ⟨by rfl, ?_⟩; (try simp only [Act.put, List.setIfInBounds_toArray, List.set_cons_zero, List.set_cons_succ])); (refine wpAnyH_offG (i := 13) (by kernel_rfl) (by kernel_rfl) (by kernel_rfl) (fun _ _ _ _ _ h => h) hS ?_; intro oi hoi; simp only [List.getElem?_toArray, List.getElem?_cons_succ, List.getElem?_cons_zero] at hoi; cases hoi; refine ⟨by rfl, ?_⟩; (try simp only [Act.put, List.setIfInBounds_toArray, List.set_cons_zero, List.set_cons_succ])); (refine wpAnyH_offG (i := 14) (by kernel_rfl) (by kernel_rfl) (by kernel_rfl) (fun _ _ _ _ _ h => h) hS ?_; intro oi hoi; simp only [List.getElem?_toArray, List.getElem?_cons_succ, List.getElem?_cons_zero] at hoi; cases hoi; refine ⟨by rfl, ?_⟩; (try simp only [Act.put, List.setIfInBounds_toArray, List.set_cons_zero, List.set_cons_succ])); (refine wpAnyH_offG (i := 15) (by kernel_rfl) (by kernel_rfl) (by kernel_rfl) (fun _ _ _ _ _ h => h) hS ?_; intro oi hoi; simp only [List.getElem?_toArray, List.getElem?_cons_succ, List.getElem?_cons_zero] at hoi; cases hoi; refine ⟨by rfl, ?_⟩; (try simp only [Act.put, List.setIfInBounds_toArray, List.set_cons_zero, List.set_cons_succ])); (refine wpAnyH_offG (i := 16) (by kernel_rfl) (by kernel_rfl) (by kernel_rfl) (fun _ _ _ _ _ h => h) hS ?_; intro oi hoi; simp only [List.getElem?_toArray, List.getElem?_cons_succ, List.getElem?_cons_zero] at hoi; cases hoi; refine ⟨by rfl, ?_⟩; (try simp only [Act.put, List.setIfInBounds_toArray, List.set_cons_zero, List.set_cons_succ])); (refine wpAnyH_takeG (i := 17) (by kernel_rfl) (by kernel_rfl) (by kernel_rfl) (fun _ _ _ _ _ h => h) hS ?_; intro oi hoi; simp only [List.getElem?_toArray, List.getElem?_cons_succ, List.getElem?_cons_zero] at hoi; cases hoi; refine ⟨?_, by rfl, ?_, ?_⟩; rotate_left; (focus (intro wS hSw; skip; go_simp; (first | done | with_reducible rfl))); (try simp only [Act.put, List.setIfInBounds_toArray, List.set_cons_zero, List.set_cons_succ])); (refine wpAnyH_takeG (i := 18) (by kernel_rfl) (by kernel_rfl) (by kernel_rfl) (fun _ _ _ _ _ h => h) hS ?_; intro oi hoi; simp only [List.getElem?_toArray, List.getElem?_cons_succ, List.getElem?_cons_zero] at hoi; cases hoi; refine ⟨?_, by rfl, ?_, ?_⟩; rotate_left; (focus (intro wS hSw; skip; go_simp; (first | done | with_reducible rfl))); (try simp only [Act.put, List.setIfInBounds_toArray, List.set_cons_zero, List.set_cons_succ]))
     refine wpAnyH_done (by kernel_rfl) ?_ _
     refine NoPanic.normal ?_
     go_wp2_with fail
     go_roundg (l.length - 1)
     case measure => have := HM.out; omega
     case rel => exact ⟨1, by go_num, by omega, ⟨by omega⟩, ⟨by rw [HE.out]; show _ = risB v o (some (l.getD 0 z84)) _; rw [HXX.out]⟩, ⟨fun j hj => by obtain rfl : j = 0 := (by omega); rw [HXX.out]; exact HVX.out⟩, ⟨HK.out.then_ (HK1.out.then_ HK2.out (fun _ h => h.elim)) (fun _ h => h.elim)⟩, ⟨HB2.out⟩⟩
    | succ j =>
     obtain ⟨ad', hA, d0, d1, d2, d3, d4⟩ := at_T84 HCr.out (j : Int) (by omega) (by omega)
     cases hA
     rw [show rd_T84 l (j : Int) = l.getD j z84 by simp [rd_T84]] at d0 d1 d2 d3 d4
     simp only [Int.toNat_natCast] at d0 d1 d2 d3 d4
     obtain ⟨y, hy⟩ : ∃ y, l.getD j z84 = y := ⟨_, rfl⟩
     have hvy := HAll.out j (by omega)
     rw [hy] at d0 d1 d2 d3 d4 hvy
     have HVT := Lib.hid (show vb = (decide (o y x < 0) && risB v o (some x) (l.drop (j + 1 + 1))) by rw [HVS.out]; show (true && (decide (o (l.getD j z84) x < 0) && _)) = _; rw [hy]; rfl)
     have HF0 := Lib.hid (fun W (hk : Kept W1 W (fun _ => False)) => cell_kept d0 (HK1.out.then_ hk (fun _ h => h.elim)) id)
     have HF1 := Lib.hid (fun W (hk : Kept W1 W (fun _ => False)) => cell_kept d1 (HK1.out.then_ hk (fun _ h => h.elim)) id)
     have HF2 := Lib.hid (fun W (hk : Kept W1 W (fun _ => False)) => cell_kept d2 (HK1.out.then_ hk (fun _ h => h.elim)) id)
     have HF3 := Lib.hid (fun W (hk : Kept W1 W (fun _ => False)) => cell_kept d3 (HK1.out.then_ hk (fun _ h => h.elim)) id)
     have HF4 := Lib.hid (fun W (hk : Kept W1 W (fun _ => False)) => cell_kept d4 (HK1.out.then_ hk (fun _ h => h.elim)) id)
     have HOO := Lib.hid (fun W (hb : Below w0.heap.size w0 W) => HO0.out W y x hvy HVX.out hb)
     have hw1 : IntKind.i64.wrap (((j + 1 : Nat) : Int) - 1) = (j : Int) := by rw [IntKind.wrap_i64]; omega
     have hw2 : ((j + 1 : Nat) : Int) - 1 = (j : Int) := by omega
     have hw3 : IntKind.i64.wrap (j : Int) = (j : Int) := by rw [IntKind.wrap_i64]; omega
     have hjl : j < l.length := by omega
     have hj0 : 0 ≤ (j : Int) := by omega
     have hp : decide (0 < ((j + 1 : Nat) : Int)) = true := decide_eq_true (by omega)
     clear hx hy hvy d0 d1 d2 d3 d4
     generalize o y x = oyx at HVT HOO
     by_cases hle : 0 ≤ oyx
     ·
      have d1 : decide (0 ≤ oyx) = true := decide_eq_true hle
      have HE := Lib.hid (show vb = false by rw [HVT.out, show decide (oyx < 0) = false from decide_eq_false (by omega)]; rfl)
      clear hle
      go_wp2_with fail
      rw [HW1.out]
      refine wp_region_noPanic ?_
      refine wp_region_held_drew (S := fun W => Kept W1 W (fun _ => False) ∧ Below w0.heap.size w0 W) (by kernel_rfl) ⟨(Kept.refl _ _).drew, below_drew HB1.out⟩ (fun hS => ?_)
      (refine wpAnyH_takeG (i := 0) (by kernel_rfl) (by kernel_rfl) (by kernel_rfl) (fun _ _ _ _ _ h => h) hS ?_; intro oi hoi; simp only [List.getElem?_toArray, List.getElem?_cons_succ, List.getElem?_cons_zero] at hoi; cases hoi; refine ⟨?_, by rfl, ?_, ?_⟩; rotate_left; (focus (intro wS hSw; skip; go_simp; (first | done | with_reducible rfl))); (try simp only [Act.put, List.setIfInBounds_toArray, List.set_cons_zero, List.set_cons_succ]))
      (refine wpAnyH_takeG (i := 1) (by kernel_rfl) (by kernel_rfl) (by kernel_rfl) (fun _ _ _ _ _ h => h) hS ?_; intro oi hoi; simp only [List.getElem?_toArray, List.getElem?_cons_succ, List.getElem?_cons_zero] at hoi; cases hoi; refine ⟨?_, by rfl, ?_, ?_⟩; rotate_left; (focus (intro wS hSw; have g0 := (blk_cell (blk_kept HG1.out hSw.1 id) 0).trans rfl; have g1 := (blk_cell (blk_kept HG1.out hSw.1 id) 1).trans rfl; have g2 := (blk_cell (blk_kept HG1.out hSw.1 id) 2).trans rfl; have g3 := (blk_cell (blk_kept HG1.out hSw.1 id) 3).trans rfl; have g4 := (blk_cell (blk_kept HG1.out hSw.1 id) 4).trans rfl; go_simp; (first | done | with_reducible rfl))); (try simp only [Act.put, List.setIfInBounds_toArray, List.set_cons_zero, List.set_cons_succ]))
      (refine wpAnyH_oneG (i := 2) (by kernel_rfl) ?_; intro oi hoi K' hK; simp only [List.getElem?_toArray, List.getElem?_cons_succ, List.getElem?_cons_zero] at hoi; cases hoi; go_simp; refine (HVV.out _ hS.1 hS.2).mono ?_; rintro r w2 ⟨rfl, hB2, hK2⟩; have HB2 := Lib.hid hB2; have HK2 := Lib.hid (hS.1.then_ hK2 (fun _ h => h.elim)); clear hB2 hK2; go_wp2_with fail)
      (refine hK.out _ _ ?_ (fun hS => ?_); (focus (exact ⟨HK2.out, HB2.out⟩)); clear hK K'; (try simp only [Act.put, List.setIfInBounds_toArray, List.set_cons_zero, List.set_cons_succ]))
      (refine wpAnyH_takeG (i := 3) (by kernel_rfl) (by kernel_rfl) (by kernel_rfl) (fun _ _ _ _ _ h => h) hS ?_; intro oi hoi; simp only [List.getElem?_toArray, List.getElem?_cons_succ, List.getElem?_cons_zero] at hoi; cases hoi; refine ⟨?_, by rfl, ?_, ?_⟩; rotate_left; (focus (intro wS hSw; skip; go_simp; (first | done | with_reducible rfl))); (try simp only [Act.put, List.setIfInBounds_toArray, List.set_cons_zero, List.set_cons_succ])); (refine wpAnyH_takeG (i := 4) (by kernel_rfl) (by kernel_rfl) (by kernel_rfl) (fun _ _ _ _ _ h => h) hS ?_; intro oi hoi; simp only [List.getElem?_toArray, List.getElem?_cons_succ, List.getElem?_cons_zero] at hoi; cases hoi; refine ⟨?_, by rfl, ?_, ?_⟩; rotate_left; (focus (intro wS hSw; skip; go_simp; (first | done | with_reducible rfl))); (try simp only [Act.put, List.setIfInBounds_toArray, List.set_cons_zero, List.set_cons_succ])); (refine wpAnyH_takeG (i := 5) (by kernel_rfl) (by kernel_rfl) (by kernel_rfl) (fun _ _ _ _ _ h => h) hS ?_; intro oi hoi; simp only [List.getElem?_toArray, List.getElem?_cons_succ, List.getElem?_cons_zero] at hoi; cases hoi; refine ⟨?_, by rfl, ?_, ?_⟩; rotate_left; (focus (intro wS hSw; skip; go_simp; (first | done | with_reducible rfl))); (try simp only [Act.put, List.setIfInBounds_toArray, List.set_cons_zero, List.set_cons_succ])); (refine wpAnyH_takeG (i := 6) (by kernel_rfl) (by kernel_rfl) (by kernel_rfl) (fun _ _ _ _ _ h => h) hS ?_; intro oi hoi; simp only [List.getElem?_toArray, List.getElem?_cons_succ, List.getElem?_cons_zero] at hoi; cases hoi; refine ⟨?_, by rfl, ?_, ?_⟩; rotate_left; (focus (intro wS hSw; skip; go_simp; (first | done | with_reducible rfl))); (try simp only [Act.put, List.setIfInBounds_toArray, List.set_cons_zero, List.set_cons_succ])); (refine wpAnyH_takeG (i := 7) (by kernel_rfl) (by kernel_rfl) (by kernel_rfl) (fun _ _ _ _ _ h => h) hS ?_; intro oi hoi; simp only [List.getElem?_toArray, List.getElem?_cons_succ, List.getElem?_cons_zero] at hoi; cases hoi; refine ⟨?_, by rfl, ?_, ?_⟩; rotate_left; (focus (intro wS hSw; skip; go_simp; (first | done | with_reducible rfl))); (try simp only [Act.put, List.setIfInBounds_toArray, List.set_cons_zero, List.set_cons_succ])); (refine wpAnyH_takeG (i := 8) (by kernel_rfl) (by kernel_rfl) (by kernel_rfl) (fun _ _ _ _ _ h => h) hS ?_; intro oi hoi; simp only [List.getElem?_toArray, List.getElem?_cons_succ, List.getElem?_cons_zero] at hoi; cases hoi; refine ⟨?_, by rfl, ?_, ?_⟩; rotate_left; (focus (intro wS hSw; skip; go_simp; (first | done | with_reducible rfl))); (try simp only [Act.put, List.setIfInBounds_toArray, List.set_cons_zero, List.set_cons_succ])); (refine wpAnyH_takeG (i := 9) (by kernel_rfl) (by kernel_rfl) (by kernel_rfl) (fun _ _ _ _ _ h => h) hS ?_; intro oi hoi; simp only [List.getElem?_toArray, List.getElem?_cons_succ, List.getElem?_cons_zero] at hoi; cases hoi; refine ⟨?_, by rfl, ?_, ?_⟩; rotate_left; (focus (intro wS hSw; skip; go_simp; (first | done | with_reducible rfl))); (try simp only [Act.put, List.setIfInBounds_toArray, List.set_cons_zero, List.set_cons_succ])); (refine wpAnyH_takeG (i := 10) (by kernel_rfl) (by kernel_rfl) (by kernel_rfl) (fun _ _ _ _ _ h => h) hS ?_; intro oi hoi; simp only [List.getElem?_toArray, List.getElem?_cons_succ, List.getElem?_cons_zero] at hoi; cases hoi; refine ⟨?_, by rfl, ?_, ?_⟩; rotate_left; (focus (intro wS hSw; skip; go_simp; (first | done | with_reducible rfl))); (try simp only [Act.put, List.setIfInBounds_toArray, List.set_cons_zero, List.set_cons_succ])); (refine wpAnyH_takeG (i := 11) (by kernel_rfl) (by kernel_rfl) (by kernel_rfl) (fun _ _ _ _ _ h => h) hS ?_; intro oi hoi; simp only [List.getElem?_toArray, List.getElem?_cons_succ, List.getElem?_cons_zero] at hoi; cases hoi; refine ⟨?_, by rfl, ?_, ?_⟩; rotate_left; (focus (intro wS hSw; skip; go_simp; (first | done | with_reducible rfl))); (try simp only [Act.put, List.setIfInBounds_toArray, List.set_cons_zero, List.set_cons_succ])); (refine wpAnyH_takeG (i := 12) (by kernel_rfl) (by kernel_rfl) (by kernel_rfl) (fun _ _ _ _ _ h => h) hS ?_; intro oi hoi; simp only [List.getElem?_toArray, List.getElem?_cons_succ, List.getElem?_cons_zero] at hoi; cases hoi; refine ⟨?_, by rfl, ?_, ?_⟩; rotate_left; (focus (intro wS hSw; skip; go_simp; (first | done | with_reducible rfl))); (try simp only [Act.put, List.setIfInBounds_toArray, List.set_cons_zero, List.set_cons_succ]))
      (refine wpAnyH_takeG (i := 13) (by kernel_rfl) (by kernel_rfl) (by kernel_rfl) (fun _ _ _ _ _ h => h) hS ?_; intro oi hoi; simp only [List.getElem?_toArray, List.getElem?_cons_succ, List.getElem?_cons_zero] at hoi; cases hoi; refine ⟨?_, by rfl, ?_, ?_⟩; rotate_left; (focus (intro wS hSw; have p0 := HF0.out _ hSw.1; have p1 := HF1.out _ hSw.1; have p2 := HF2.out _ hSw.1; have p3 := HF3.out _ hSw.1; have p4 := HF4.out _ hSw.1; go_simp; (first | done | with_reducible rfl))); (try simp only [Act.put, List.setIfInBounds_toArray, List.set_cons_zero, List.set_cons_succ]))
      (refine wpAnyH_takeG (i := 14) (by kernel_rfl) (by kernel_rfl) (by kernel_rfl) (fun _ _ _ _ _ h => h) hS ?_; intro oi hoi; simp only [List.getElem?_toArray, List.getElem?_cons_succ, List.getElem?_cons_zero] at hoi; cases hoi; refine ⟨?_, by rfl, ?_, ?_⟩; rotate_left; (focus (intro wS hSw; have g0 := (blk_cell (blk_kept HG1.out hSw.1 id) 0).trans rfl; have g1 := (blk_cell (blk_kept HG1.out hSw.1 id) 1).trans rfl; have g2 := (blk_cell (blk_kept HG1.out hSw.1 id) 2).trans rfl; have g3 := (blk_cell (blk_kept HG1.out hSw.1 id) 3).trans rfl; have g4 := (blk_cell (blk_kept HG1.out hSw.1 id) 4).trans rfl; go_simp; (first | done | with_reducible rfl))); (try simp only [Act.put, List.setIfInBounds_toArray, List.set_cons_zero, List.set_cons_succ]))
      (refine wpAnyH_oneG (i := 15) (by kernel_rfl) ?_; intro oi hoi K' hK; simp only [List.getElem?_toArray, List.getElem?_cons_succ, List.getElem?_cons_zero] at hoi; cases hoi; go_simp; refine (HOO.out _ hS.2).mono ?_; rintro r w3 ⟨rfl, hB3, hK3⟩; have HB3 := Lib.hid hB3; have HK3 := Lib.hid (hS.1.then_ hK3 (fun _ h => h.elim)); clear hB3 hK3; go_wp2_with fail)
      (refine hK.out _ _ ?_ (fun hS => ?_); (focus (exact ⟨HK3.out, HB3.out⟩)); clear hK K'; (try simp only [Act.put, List.setIfInBounds_toArray, List.set_cons_zero, List.set_cons_succ]))
      (refine wpAnyH_takeG (i := 16) (by kernel_rfl) (by kernel_rfl) (by kernel_rfl) (fun _ _ _ _ _ h => h) hS ?_; intro oi hoi; simp only [List.getElem?_toArray, List.getElem?_cons_succ, List.getElem?_cons_zero] at hoi; cases hoi; refine ⟨?_, by rfl, ?_, ?_⟩; rotate_left; (focus (intro wS hSw; skip; go_simp; (first | done | with_reducible rfl))); (try simp only [Act.put, List.setIfInBounds_toArray, List.set_cons_zero, List.set_cons_succ])); (refine wpAnyH_takeG (i := 17) (by kernel_rfl) (by kernel_rfl) (by kernel_rfl) (fun _ _ _ _ _ h => h) hS ?_; intro oi hoi; simp only [List.getElem?_toArray, List.getElem?_cons_succ, List.getElem?_cons_zero] at hoi; cases hoi; refine ⟨?_, by rfl, ?_, ?_⟩; rotate_left; (focus (intro wS hSw; skip; go_simp; (first | done | with_reducible rfl))); (try simp only [Act.put, List.setIfInBounds_toArray, List.set_cons_zero, List.set_cons_succ])); (refine wpAnyH_takeG (i := 18) (by kernel_rfl) (by kernel_rfl) (by kernel_rfl) (fun _ _ _ _ _ h => h) hS ?_; intro oi hoi; simp only [List.getElem?_toArray, List.getElem?_cons_succ, List.getElem?_cons_zero] at hoi; cases hoi; refine ⟨?_, by rfl, ?_, ?_⟩; rotate_left; (focus (intro wS hSw; skip; go_simp; (first | done | with_reducible rfl))); (try simp only [Act.put, List.setIfInBounds_toArray, List.set_cons_zero, List.set_cons_succ]))
      refine wpAnyH_done (by kernel_rfl) ?_ _
      refine NoPanic.normal ?_
      go_wp2_with fail
      go_ret
      exact ⟨by rw [HE.out]; rfl, HB3.out, HK.out.then_ (HK1.out.then_ HK3.out (fun _ h => h.elim)) (fun _ h => h.elim)⟩
     ·
      have d1 : decide (0 ≤ oyx) = false := decide_eq_false hle
      have HE := Lib.hid (show vb = risB v o (some x) (l.drop (j + 1 + 1)) by rw [HVT.out, show decide (oyx < 0) = true from decide_eq_true (by omega)]; rfl)
      clear hle
      go_wp2_with fail
      rw [HW1.out]
      refine wp_region_noPanic ?_
      refine wp_region_held_drew (S := fun W => Kept W1 W (fun _ => False) ∧ Below w0.heap.size w0 W) (by kernel_rfl) ⟨(Kept.refl _ _).drew, below_drew HB1.out⟩ (fun hS => ?_)
      (refine wpAnyH_takeG (i := 0) (by kernel_rfl) (by kernel_rfl) (by kernel_rfl) (fun _ _ _ _ _ h => h) hS ?_; intro oi hoi; simp only [List.getElem?_toArray, List.getElem?_cons_succ, List.getElem?_cons_zero] at hoi; cases hoi; refine ⟨?_, by rfl, ?_, ?_⟩; rotate_left; (focus (intro wS hSw; skip; go_simp; (first | done | with_reducible rfl))); (try simp only [Act.put, List.setIfInBounds_toArray, List.set_cons_zero, List.set_cons_succ]))
      (refine wpAnyH_takeG (i := 1) (by kernel_rfl) (by kernel_rfl) (by kernel_rfl) (fun _ _ _ _ _ h => h) hS ?_; intro oi hoi; simp only [List.getElem?_toArray, List.getElem?_cons_succ, List.getElem?_cons_zero] at hoi; cases hoi; refine ⟨?_, by rfl, ?_, ?_⟩; rotate_left; (focus (intro wS hSw; have g0 := (blk_cell (blk_kept HG1.out hSw.1 id) 0).trans rfl; have g1 := (blk_cell (blk_kept HG1.out hSw.1 id) 1).trans rfl; have g2 := (blk_cell (blk_kept HG1.out hSw.1 id) 2).trans rfl; have g3 := (blk_cell (blk_kept HG1.out hSw.1 id) 3).trans rfl; have g4 := (blk_cell (blk_kept HG1.out hSw.1 id) 4).trans rfl; go_simp; (first | done | with_reducible rfl))); (try simp only [Act.put, List.setIfInBounds_toArray, List.set_cons_zero, List.set_cons_succ]))
      (refine wpAnyH_oneG (i := 2) (by kernel_rfl) ?_; intro oi hoi K' hK; simp only [List.getElem?_toArray, List.getElem?_cons_succ, List.getElem?_cons_zero] at hoi; cases hoi; go_simp; refine (HVV.out _ hS.1 hS.2).mono ?_; rintro r w2 ⟨rfl, hB2, hK2⟩; have HB2 := Lib.hid hB2; have HK2 := Lib.hid (hS.1.then_ hK2 (fun _ h => h.elim)); clear hB2 hK2; go_wp2_with fail)
      (refine hK.out _ _ ?_ (fun hS => ?_); (focus (exact ⟨HK2.out, HB2.out⟩)); clear hK K'; (try simp only [Act.put, List.setIfInBounds_toArray, List.set_cons_zero, List.set_cons_succ]))
      (refine wpAnyH_takeG (i := 3) (by kernel_rfl) (by kernel_rfl) (by kernel_rfl) (fun _ _ _ _ _ h => h) hS ?_; intro oi hoi; simp only [List.getElem?_toArray, List.getElem?_cons_succ, List.getElem?_cons_zero] at hoi; cases hoi; refine ⟨?_, by rfl, ?_, ?_⟩; rotate_left; (focus (intro wS hSw; skip; go_simp; (first | done | with_reducible rfl))); (try simp only [Act.put, List.setIfInBounds_toArray, List.set_cons_zero, List.set_cons_succ])); (refine wpAnyH_takeG (i := 4) (by kernel_rfl) (by kernel_rfl) (by kernel_rfl) (fun _ _ _ _ _ h => h) hS ?_; intro oi hoi; simp only [List.getElem?_toArray, List.getElem?_cons_succ, List.getElem?_cons_zero] at hoi; cases hoi; refine ⟨?_, by rfl, ?_, ?_⟩; rotate_left; (focus (intro wS hSw; skip; go_simp; (first | done | with_reducible rfl))); (try simp only [Act.put, List.setIfInBounds_toArray, List.set_cons_zero, List.set_cons_succ])); (refine wpAnyH_takeG (i := 5) (by kernel_rfl) (by kernel_rfl) (by kernel_rfl) (fun _ _ _ _ _ h => h) hS ?_; intro oi hoi; simp only [List.getElem?_toArray, List.getElem?_cons_succ, List.getElem?_cons_zero] at hoi; cases hoi; refine ⟨?_, by rfl, ?_, ?_⟩; rotate_left; (focus (intro wS hSw; skip; go_simp; (first | done | with_reducible rfl))); (try simp only [Act.put, List.setIfInBounds_toArray, List.set_cons_zero, List.set_cons_succ])); (refine wpAnyH_takeG (i := 6) (by kernel_rfl) (by kernel_rfl) (by kernel_rfl) (fun _ _ _ _ _ h => h) hS ?_; intro oi hoi; simp only [List.getElem?_toArray, List.getElem?_cons_succ, List.getElem?_cons_zero] at hoi; cases hoi; refine ⟨?_, by rfl, ?_, ?_⟩; rotate_left; (focus (intro wS hSw; skip; go_simp; (first | done | with_reducible rfl))); (try simp only [Act.put, List.setIfInBounds_toArray, List.set_cons_zero, List.set_cons_succ])); (refine wpAnyH_takeG (i := 7) (by kernel_rfl) (by kernel_rfl) (by kernel_rfl) (fun _ _ _ _ _ h => h) hS ?_; intro oi hoi; simp only [List.getElem?_toArray, List.getElem?_cons_succ, List.getElem?_cons_zero] at hoi; cases hoi; refine ⟨?_, by rfl, ?_, ?_⟩; rotate_left; (focus (intro wS hSw; skip; go_simp; (first | done | with_reducible rfl))); (try simp only [Act.put, List.setIfInBounds_toArray, List.set_cons_zero, List.set_cons_succ])); (refine wpAnyH_takeG (i := 8) (by kernel_rfl) (by kernel_rfl) (by kernel_rfl) (fun _ _ _ _ _ h => h) hS ?_; intro oi hoi; simp only [List.getElem?_toArray, List.getElem?_cons_succ, List.getElem?_cons_zero] at hoi; cases hoi; refine ⟨?_, by rfl, ?_, ?_⟩; rotate_left; (focus (intro wS hSw; skip; go_simp; (first | done | with_reducible rfl))); (try simp only [Act.put, List.setIfInBounds_toArray, List.set_cons_zero, List.set_cons_succ])); (refine wpAnyH_takeG (i := 9) (by kernel_rfl) (by kernel_rfl) (by kernel_rfl) (fun _ _ _ _ _ h => h) hS ?_; intro oi hoi; simp only [List.getElem?_toArray, List.getElem?_cons_succ, List.getElem?_cons_zero] at hoi; cases hoi; refine ⟨?_, by rfl, ?_, ?_⟩; rotate_left; (focus (intro wS hSw; skip; go_simp; (first | done | with_reducible rfl))); (try simp only [Act.put, List.setIfInBounds_toArray, List.set_cons_zero, List.set_cons_succ])); (refine wpAnyH_takeG (i := 10) (by kernel_rfl) (by kernel_rfl) (by kernel_rfl) (fun _ _ _ _ _ h => h) hS ?_; intro oi hoi; simp only [List.getElem?_toArray, List.getElem?_cons_succ, List.getElem?_cons_zero] at hoi; cases hoi; refine ⟨?_, by rfl, ?_, ?_⟩; rotate_left; (focus (intro wS hSw; skip; go_simp; (first | done | with_reducible rfl))); (try simp only [Act.put, List.setIfInBounds_toArray, List.set_cons_zero, List.set_cons_succ])); (refine wpAnyH_takeG (i := 11) (by kernel_rfl) (by kernel_rfl) (by kernel_rfl) (fun _ _ _ _ _ h => h) hS ?_; intro oi hoi; simp only [List.getElem?_toArray, List.getElem?_cons_succ, List.getElem?_cons_zero] at hoi; cases hoi; refine ⟨?_, by rfl, ?_, ?_⟩; rotate_left; (focus (intro wS hSw; skip; go_simp; (first | done | with_reducible rfl))); (try simp only [Act.put, List.setIfInBounds_toArray, List.set_cons_zero, List.set_cons_succ])); (refine wpAnyH_takeG (i := 12) (by kernel_rfl) (by kernel_rfl) (by kernel_rfl) (fun _ _ _ _ _ h => h) hS ?_; intro oi hoi; simp only [List.getElem?_toArray, List.getElem?_cons_succ, List.getElem?_cons_zero] at hoi; cases hoi; refine ⟨?_, by rfl, ?_, ?_⟩; rotate_left; (focus (intro wS hSw; skip; go_simp; (first | done | with_reducible rfl))); (try simp only [Act.put, List.setIfInBounds_toArray, List.set_cons_zero, List.set_cons_succ]))
      (refine wpAnyH_takeG (i := 13) (by kernel_rfl) (by kernel_rfl) (by kernel_rfl) (fun _ _ _ _ _ h => h) hS ?_; intro oi hoi; simp only [List.getElem?_toArray, List.getElem?_cons_succ, List.getElem?_cons_zero] at hoi; cases hoi; refine ⟨?_, by rfl, ?_, ?_⟩; rotate_left; (focus (intro wS hSw; have p0 := HF0.out _ hSw.1; have p1 := HF1.out _ hSw.1; have p2 := HF2.out _ hSw.1; have p3 := HF3.out _ hSw.1; have p4 := HF4.out _ hSw.1; go_simp; (first | done | with_reducible rfl))); (try simp only [Act.put, List.setIfInBounds_toArray, List.set_cons_zero, List.set_cons_succ]))
      (refine wpAnyH_takeG (i := 14) (by kernel_rfl) (by kernel_rfl) (by kernel_rfl) (fun _ _ _ _ _ h => h) hS ?_; intro oi hoi; simp only [List.getElem?_toArray, List.getElem?_cons_succ, List.getElem?_cons_zero] at hoi; cases hoi; refine ⟨?_, by rfl, ?_, ?_⟩; rotate_left; (focus (intro wS hSw; have g0 := (blk_cell (blk_kept HG1.out hSw.1 id) 0).trans rfl; have g1 := (blk_cell (blk_kept HG1.out hSw.1 id) 1).trans rfl; have g2 := (blk_cell (blk_kept HG1.out hSw.1 id) 2).trans rfl; have g3 := (blk_cell (blk_kept HG1.out hSw.1 id) 3).trans rfl; have g4 := (blk_cell (blk_kept HG1.out hSw.1 id) 4).trans rfl; go_simp; (first | done | with_reducible rfl))); (try simp only [Act.put, List.setIfInBounds_toArray, List.set_cons_zero, List.set_cons_succ]))
      (refine wpAnyH_oneG (i := 15) (by kernel_rfl) ?_; intro oi hoi K' hK; simp only [List.getElem?_toArray, List.getElem?_cons_succ, List.getElem?_cons_zero] at hoi; cases hoi; go_simp; refine (HOO.out _ hS.2).mono ?_; rintro r w3 ⟨rfl, hB3, hK3⟩; have HB3 := Lib.hid hB3; have HK3 := Lib.hid (hS.1.then_ hK3 (fun _ h => h.elim)); clear hB3 hK3; go_wp2_with fail)
      (refine hK.out _ _ ?_ (fun hS => ?_); (focus (exact ⟨HK3.out, HB3.out⟩)); clear hK K'; (try simp only [Act.put, List.setIfInBounds_toArray, List.set_cons_zero, List.set_cons_succ]))
      (refine wpAnyH_takeG (i := 16) (by kernel_rfl) (by kernel_rfl) (by kernel_rfl) (fun _ _ _ _ _ h => h) hS ?_; intro oi hoi; simp only [List.getElem?_toArray, List.getElem?_cons_succ, List.getElem?_cons_zero] at hoi; cases hoi; refine ⟨?_, by rfl, ?_, ?_⟩; rotate_left; (focus (intro wS hSw; skip; go_simp; (first | done | with_reducible rfl))); (try simp only [Act.put, List.setIfInBounds_toArray, List.set_cons_zero, List.set_cons_succ])); (refine wpAnyH_takeG (i := 17) (by kernel_rfl) (by kernel_rfl) (by kernel_rfl) (fun _ _ _ _ _ h => h) hS ?_; intro oi hoi; simp only [List.getElem?_toArray, List.getElem?_cons_succ, List.getElem?_cons_zero] at hoi; cases hoi; refine ⟨?_, by rfl, ?_, ?_⟩; rotate_left; (focus (intro wS hSw; skip; go_simp; (first | done | with_reducible rfl))); (try simp only [Act.put, List.setIfInBounds_toArray, List.set_cons_zero, List.set_cons_succ])); (refine wpAnyH_takeG (i := 18) (by kernel_rfl) (by kernel_rfl) (by kernel_rfl) (fun _ _ _ _ _ h => h) hS ?_; intro oi hoi; simp only [List.getElem?_toArray, List.getElem?_cons_succ, List.getElem?_cons_zero] at hoi; cases hoi; refine ⟨?_, by rfl, ?_, ?_⟩; rotate_left; (focus (intro wS hSw; skip; go_simp; (first | done | with_reducible rfl))); (try simp only [Act.put, List.setIfInBounds_toArray, List.set_cons_zero, List.set_cons_succ]))
      refine wpAnyH_done (by kernel_rfl) ?_ _
      refine NoPanic.normal ?_
      go_wp2_with fail
      go_roundg (l.length - (j + 1 + 1))
      case measure => have := HM.out; omega
      case rel => exact ⟨j + 1 + 1, by go_num, by omega, ⟨by omega⟩, ⟨by rw [HE.out]; show _ = risB v o (some (l.getD (j + 1) z84)) _; rw [HXX.out]⟩, ⟨fun i hi => Nat.lt_succ_iff_lt_or_eq.1 hi |>.elim (fun h => HAll.out i h) (fun h => by rw [h, HXX.out]; exact HVX.out)⟩, ⟨HK.out.then_ (HK1.out.then_ HK3.out (fun _ h => h.elim)) (fun _ h => h.elim)⟩, ⟨HB3.out⟩⟩
  ·
   have q1 : decide ((k : Int) < (l.length : Int)) = false := decide_eq_false (by omega)
   have HE := Lib.hid (show vb = true by rw [HV.out, List.drop_eq_nil_of_le (by omega)]; cases prevOf z84 l k <;> rfl)
   go_wp2_with fail
   go_ret
   exact ⟨by rw [HE.out]; rfl, HBr.out, HK.out⟩
end Go.Proofs.Ytenhigpeafaidaa.Q
-- RiLoad
namespace Go.Proofs.Ytenhigpeafaidaa.Q
open Go.RowKit Go.Proofs.YtenhigpeafaidaaW.PrintWords Go.Proofs.YtenhigpeafaidaaW.PrintLast Go.Proofs.YtenhigpeafaidaaW.PrintMore Go.Proofs.Ytenhigpeafaidaa.Wire
set_option linter.unusedVariables false
set_option linter.unusedSimpArgs false

theorem heap_Load : Kd.Heap k97 := Kd.heap_iso _ (Kd.heap_pair (Kd.heap_int .i64) (Kd.heap_pair (Kd.heap_int .i64) (Kd.heap_pair (Kd.heap_int .i64) (Kd.heap_pair (Kd.heap_int .i64) (Kd.heap_int .i64)))))
theorem C_noneLoad {w w' : World} {A : Option Addr} {n : Nat} {xs : List S97} (h : Kd.C k97 w A n xs) (hk : Kept w w' (fun _ => False)) : Kd.C k97 w' A n xs := heap_Load.C (fun i hlt => hk.2 i hlt id) h
set_option maxHeartbeats 8000000 in
set_option maxRecDepth 100000 in
theorem risingLoad_calls (w0 w : World) (f1 f2 : FuncId) (v : S97 → Bool) (o : S97 → S97 → Int) (A : Option Addr) (c : Nat) (l : List S97)
  (hv : ∀ (W : World) (x : S97), Below w0.heap.size w0 W → Calls Try.prog f1 #[.agg #[.int .i64 x.f0, .int .i64 x.f1, .int .i64 x.f2, .int .i64 x.f3, .int .i64 x.f4]] W (fun r w' => r = .returned (.bool (v x)) ∧ Below w0.heap.size w0 w' ∧ Kept W w' (fun _ => False)))
  (ho : ∀ (W : World) (x y : S97), v x = true → v y = true → Below w0.heap.size w0 W → Calls Try.prog f2 #[.agg #[.int .i64 x.f0, .int .i64 x.f1, .int .i64 x.f2, .int .i64 x.f3, .int .i64 x.f4], .agg #[.int .i64 y.f0, .int .i64 y.f1, .int .i64 y.f2, .int .i64 y.f3, .int .i64 y.f4]] W (fun r w' => r = .returned (.int .i64 (o x y)) ∧ Below w0.heap.size w0 w' ∧ Kept W w' (fun _ => False)))
  (hen1 : ∀ (w : World) (a : Value), (callFunc f1 #[a]).run Try.prog w = .ok (.enter f1 #[a]) w) (hen2 : ∀ (w : World) (a b : Value), (callFunc f2 #[a, b]).run Try.prog w = .ok (.enter f2 #[a, b]) w)
  (hB : Below w0.heap.size w0 w) (hC : Kd.C k97 w A l.length l) (hl : l.length ≤ 100000000) :
  Calls Try.prog 69 #[.slice A l.length c, .func (.func f1) #[] #[], .func (.func f2) #[] #[]] w (fun r w' => r = .returned (.bool (risB v o none l)) ∧ Below w0.heap.size w0 w' ∧ Kept w w' (fun _ => False)) := by
 have HB := Lib.hid hB
 have HC := Lib.hid hC
 have HV0 := Lib.hid hv
 have HO0 := Lib.hid ho
 have HE1 := Lib.hid hen1
 have HE2 := Lib.hid hen2
 obtain ⟨vb, hvb⟩ : ∃ vb, risB v o none l = vb := ⟨_, rfl⟩
 have HVB := Lib.hid hvb
 rw [hvb]
 clear hB hC hvb hv ho hen1 hen2
 go_enter Try.func69, Try.ntmps69
 go_wp2_with fail
 go_loopg [11] l.length (fun g v11 w' => ∃ k : Nat, v11 = .int .i64 k ∧ k ≤ l.length ∧ Aside0 (g + k = l.length) ∧ Aside0 (vb = risB v o (prevOf z97 l k) (l.drop k)) ∧ Aside0 (∀ j, j < k → v (l.getD j z97) = true) ∧ Aside0 (Kept w w' (fun _ => False)) ∧ Aside0 (Below w0.heap.size w0 w'))
 case atStart => exact ⟨0, rfl, Nat.zero_le _, ⟨rfl⟩, ⟨HVB.out.symm⟩, ⟨fun j hj => by omega⟩, ⟨Kept.refl _ _⟩, ⟨HB.out⟩⟩
 case round =>
  obtain ⟨k, rfl, hk, HM, HV, HAll, HK, HBr⟩ := hrel
  by_cases h : k < l.length
  ·
   have q1 : decide ((k : Int) < (l.length : Int)) = true := decide_eq_true (by omega)
   have HVS := Lib.hid (HV.out.trans (risB_step v o z97 l k h))
   have HCr := Lib.hid (C_noneLoad HC.out HK.out)
   obtain ⟨ad, hA, e0, e1, e2, e3, e4⟩ := at_T97 HCr.out (k : Int) (by omega) (by omega)
   rw [show rd_T97 l (k : Int) = l.getD k z97 by simp [rd_T97]] at e0 e1 e2 e3 e4
   simp only [Int.toNat_natCast] at e0 e1 e2 e3 e4
   obtain ⟨x, hx⟩ : ∃ x, l.getD k z97 = x := ⟨_, rfl⟩
   rw [hx] at e0 e1 e2 e3 e4 HVS
   subst hA
   obtain ⟨W1, hW1⟩ : ∃ W1, W1 = wr.alloc (.cells #[.int .i64 x.f0, .int .i64 x.f1, .int .i64 x.f2, .int .i64 x.f3, .int .i64 x.f4] 97) := ⟨_, rfl⟩
   have HB1 := Lib.hid (show Below w0.heap.size w0 W1 by rw [hW1]; exact below_alloc' HBr.out _)
   have HK1 := Lib.hid (show Kept wr W1 (fun _ => False) by rw [hW1]; exact (Kept.refl _ _).alloc _)
   have HG1 := Lib.hid (show W1.heap[wr.heap.size]? = some (.cells #[.int .i64 x.f0, .int .i64 x.f1, .int .i64 x.f2, .int .i64 x.f3, .int .i64 x.f4] 97 (0, 0)) by rw [hW1]; exact blk_new _ _)
   have HVV := Lib.hid (fun W (hk : Kept W1 W (fun _ => False)) (hb : Below w0.heap.size w0 W) => HV0.out W x hb)
   have HW1 := Lib.hid hW1.symm
   have HXX := Lib.hid hx
   clear hW1
   have hk0 : 0 ≤ (k : Int) := by omega
   have he1 := HE1.out
   have he2 := HE2.out
   obtain ⟨vx, hvx⟩ : ∃ vx, v x = vx := ⟨_, rfl⟩
   have HVX := Lib.hid hvx
   rw [hvx] at HVV HVS
   clear hvx
   cases vx with
   | false =>
     have HE := Lib.hid (show vb = false by rw [HVS.out]; cases prevOf z97 l k <;> rfl)
     clear hx he2
     go_wp2_with fail
     rw [HW1.out]
     refine wp_region_noPanic ?_
     refine wp_region_held_drew (S := fun W => Kept W1 W (fun _ => False) ∧ Below w0.heap.size w0 W) (by kernel_rfl) ⟨(Kept.refl _ _).drew, below_drew HB1.out⟩ (fun hS => ?_)
     (refine wpAnyH_takeG (i := 0) (by kernel_rfl) (by kernel_rfl) (by kernel_rfl) (fun _ _ _ _ _ h => h) hS ?_; intro oi hoi; simp only [List.getElem?_toArray, List.getElem?_cons_succ, List.getElem?_cons_zero] at hoi; cases hoi; refine ⟨?_, by rfl, ?_, ?_⟩; rotate_left; (focus (intro wS hSw; skip; go_simp; (first | done | with_reducible rfl))); (try simp only [Act.put, List.setIfInBounds_toArray, List.set_cons_zero, List.set_cons_succ]))
     (refine wpAnyH_takeG (i := 1) (by kernel_rfl) (by kernel_rfl) (by kernel_rfl) (fun _ _ _ _ _ h => h) hS ?_; intro oi hoi; simp only [List.getElem?_toArray, List.getElem?_cons_succ, List.getElem?_cons_zero] at hoi; cases hoi; refine ⟨?_, by rfl, ?_, ?_⟩; rotate_left; (focus (intro wS hSw; have g0 := (blk_cell (blk_kept HG1.out hSw.1 id) 0).trans rfl; have g1 := (blk_cell (blk_kept HG1.out hSw.1 id) 1).trans rfl; have g2 := (blk_cell (blk_kept HG1.out hSw.1 id) 2).trans rfl; have g3 := (blk_cell (blk_kept HG1.out hSw.1 id) 3).trans rfl; have g4 := (blk_cell (blk_kept HG1.out hSw.1 id) 4).trans rfl; go_simp; (first | done | with_reducible rfl))); (try simp only [Act.put, List.setIfInBounds_toArray, List.set_cons_zero, List.set_cons_succ]))
     (refine wpAnyH_oneG (i := 2) (by kernel_rfl) ?_; intro oi hoi K' hK; simp only [List.getElem?_toArray, List.getElem?_cons_succ, List.getElem?_cons_zero] at hoi; cases hoi; go_simp; refine (HVV.out _ hS.1 hS.2).mono ?_; rintro r w2 ⟨rfl, hB2, hK2⟩; have HB2 := Lib.hid hB2; have HK2 := Lib.hid (hS.1.then_ hK2 (fun _ h => h.elim)); clear hB2 hK2; go_wp2_with fail)
     (refine hK.out _ _ ?_ (fun hS => ?_); (focus (exact ⟨HK2.out, HB2.out⟩)); clear hK K'; (try simp only [Act.put, List.setIfInBounds_toArray, List.set_cons_zero, List.set_cons_succ]))
     (refine wpAnyH_takeG (i := 3) (by kernel_rfl) (by kernel_rfl) (by kernel_rfl) (fun _ _ _ _ _ h => h) hS ?_; intro oi hoi; simp only [List.getElem?_toArray, List.getElem?_cons_succ, List.getElem?_cons_zero] at hoi; cases hoi; refine ⟨?_, by rfl, ?_, ?_⟩; rotate_left; (focus (intro wS hSw; skip; go_simp; (first | done | with_reducible rfl))); (try simp only [Act.put, List.setIfInBounds_toArray, List.set_cons_zero, List.set_cons_succ])); (refine wpAnyH_takeG (i := 4) (by kernel_rfl) (by kernel_rfl) (by kernel_rfl) (fun _ _ _ _ _ h => h) hS ?_; intro oi hoi; simp only [List.getElem?_toArray, List.getElem?_cons_succ, List.getElem?_cons_zero] at hoi; cases hoi; refine ⟨?_, by rfl, ?_, ?_⟩; rotate_left; (focus (intro wS hSw; skip; go_simp; (first | done | with_reducible rfl))); (try simp only [Act.put, List.setIfInBounds_toArray, List.set_cons_zero, List.set_cons_succ])); (refine wpAnyH_offG (i := 5) (by kernel_rfl) (by kernel_rfl) (by kernel_rfl) (fun _ _ _ _ _ h => h) hS ?_; intro oi hoi; simp only [List.getElem?_toArray, List.getElem?_cons_succ, List.getElem?_cons_zero] at hoi; cases hoi; refine ⟨by rfl, ?_⟩; (try simp only [Act.put, List.setIfInBounds_toArray, List.set_cons_zero, List.set_cons_succ])); (refine wpAnyH_offG (i := 6) (by kernel_rfl) (by kernel_rfl) (by kernel_rfl) (fun _ _ _ _ _ h => h) hS ?_; intro oi hoi; simp only [List.getElem?_toArray, List.getElem?_cons_succ, List.getElem?_cons_zero] at hoi; cases hoi; refine ⟨by rfl, ?_⟩; (try simp only [Act.put, List.setIfInBounds_toArray, List.set_cons_zero, List.set_cons_succ])); (refine wpAnyH_offG (i := 7) (by kernel_rfl) (by kernel_rfl) (by kernel_rfl) (fun _ _ _ _ _ h => h) hS ?_; intro oi hoi; simp only [List.getElem?_toArray, List.getElem?_cons_succ, List.getElem?_cons_zero] at hoi; cases hoi; refine ⟨by rfl, ?_⟩; (try simp only [Act.put, List.setIfInBounds_toArray, List.set_cons_zero, List.set_cons_succ])); (refine wpAnyH_offG (i := 8) (by kernel_rfl) (by kernel_rfl) (by kernel_rfl) (fun _ _ _ _ _ h => h) hS ?_; intro oi hoi; simp only [List.getElem?_toArray, List.getElem?_cons_succ, List.getElem?_cons_zero] at hoi; cases hoi; refine ⟨by rfl, ?_⟩; (try simp only [Act.put, List.setIfInBounds_toArray, List.set_cons_zero, List.set_cons_succ])); (refine wpAnyH_offG (i := 9) (by kernel_rfl) (by kernel_rfl) (by kernel_rfl) (fun _ _ _ _ _ h => h) hS ?_; intro oi hoi; simp only [List.getElem?_toArray, List.getElem?_cons_succ, List.getElem?_cons_zero] at hoi; cases hoi; refine ⟨by rfl, ?_⟩; (try simp only [Act.put, List.setIfInBounds_toArray, List.set_cons_zero, List.set_cons_succ])); (refine wpAnyH_offG (i := 10) (by kernel_rfl) (by kernel_rfl) (by kernel_rfl) (fun _ _ _ _ _ h => h) hS ?_; intro oi hoi; simp only [List.getElem?_toArray, List.getElem?_cons_succ, List.getElem?_cons_zero] at hoi; cases hoi; refine ⟨by rfl, ?_⟩; (try simp only [Act.put, List.setIfInBounds_toArray, List.set_cons_zero, List.set_cons_succ])); (refine wpAnyH_offG (i := 11) (by kernel_rfl) (by kernel_rfl) (by kernel_rfl) (fun _ _ _ _ _ h => h) hS ?_; intro oi hoi; simp only [List.getElem?_toArray, List.getElem?_cons_succ, List.getElem?_cons_zero] at hoi; cases hoi; refine ⟨by rfl, ?_⟩; (try simp only [Act.put, List.setIfInBounds_toArray, List.set_cons_zero, List.set_cons_succ])); (refine wpAnyH_offG (i := 12) (by kernel_rfl) (by kernel_rfl) (by kernel_rfl) (fun _ _ _ _ _ h => h) hS ?_; intro oi hoi; simp only [List.getElem?_toArray, List.getElem?_cons_succ, List.getElem?_cons_zero] at hoi; cases hoi; refine ⟨by rfl, ?_⟩; (try simp only [Act.put, List.setIfInBounds_toArray, List.set_cons_zero, List.set_cons_succ])); (refine wpAnyH_offG (i := 13) (by kernel_rfl) (by kernel_rfl) (by kernel_rfl) (fun _ _ _ _ _ h => h) hS ?_; intro oi hoi; simp only [List.getElem?_toArray, List.getElem?_cons_succ, List.getElem?_cons_zero] at hoi; cases hoi; refine ⟨by rfl, ?_⟩; (try simp only [Act.put, List.setIfInBounds_toArray, List.set_cons_zero, List.set_cons_succ])); (refine wpAnyH_offG (i := 14) (by kernel_rfl) (by kernel_rfl) (by kernel_rfl) (fun _ _ _ _ _ h => h) hS ?_; intro oi hoi; simp only [List.getElem?_toArray, List.getElem?_cons_succ, List.getElem?_cons_zero] at hoi; cases hoi; refine ⟨by rfl, ?_⟩; (try simp only [Act.put, List.setIfInBounds_toArray, List.set_cons_zero, List.set_cons_succ])); (refine wpAnyH_offG (i := 15) (by kernel_rfl) (by kernel_rfl) (by kernel_rfl) (fun _ _ _ _ _ h => h) hS ?_; intro oi hoi; simp only [List.getElem?_toArray, List.getElem?_cons_succ, List.getElem?_cons_zero] at hoi; cases hoi; refine ⟨by rfl, ?_⟩; (try simp only [Act.put, List.setIfInBounds_toArray, List.set_cons_zero, List.set_cons_succ])); (refine wpAnyH_offG (i := 16) (by kernel_rfl) (by kernel_rfl) (by kernel_rfl) (fun _ _ _ _ _ h => h) hS ?_; intro oi hoi; simp only [List.getElem?_toArray, List.getElem?_cons_succ, List.getElem?_cons_zero] at hoi; cases hoi; refine ⟨by rfl, ?_⟩; (try simp only [Act.put, List.setIfInBounds_toArray, List.set_cons_zero, List.set_cons_succ])); (refine wpAnyH_offG (i := 17) (by kernel_rfl) (by kernel_rfl) (by kernel_rfl) (fun _ _ _ _ _ h => h) hS ?_; intro oi hoi; simp only [List.getElem?_toArray, List.getElem?_cons_succ, List.getElem?_cons_zero] at hoi; cases hoi; refine ⟨by rfl, ?_⟩; (try simp only [Act.put, List.setIfInBounds_toArray, List.set_cons_zero, List.set_cons_succ])); (refine wpAnyH_takeG (i := 18) (by kernel_rfl) (by kernel_rfl) (by kernel_rfl) (fun _ _ _ _ _ h => h) hS ?_; intro oi hoi; simp only [List.getElem?_toArray, List.getElem?_cons_succ, List.getElem?_cons_zero] at hoi; cases hoi; refine ⟨?_, by rfl, ?_, ?_⟩; rotate_left; (focus (intro wS hSw; skip; go_simp; (first | done | with_reducible rfl))); (try simp only [Act.put, List.setIfInBounds_toArray, List.set_cons_zero, List.set_cons_succ]))
     refine wpAnyH_done (by kernel_rfl) ?_ _
     refine NoPanic.normal ?_
     go_wp2_with fail
     go_ret
     exact ⟨by rw [HE.out]; rfl, HB2.out, HK.out.then_ (HK1.out.then_ HK2.out (fun _ h => h.elim)) (fun _ h => h.elim)⟩
   | true =>
    cases k with
    | zero =>
     have HE := Lib.hid (show vb = risB v o (some x) (l.drop 1) by rw [HVS.out]; rfl)
     clear hx he2
     have ez : ad.add (0 * 5) = ad := by rw [Nat.zero_mul]; exact Addr.add_zero' ad
     rw [ez] at e0 e1 e2 e3 e4
     clear ez
     go_wp2_with fail
     rw [HW1.out]
     refine wp_region_noPanic ?_
     refine wp_region_held_drew (S := fun W => Kept W1 W (fun _ => False) ∧ Below w0.heap.size w0 W) (by kernel_rfl) ⟨(Kept.refl _ _).drew, below_drew HB1.out⟩ (fun hS => ?_)
     (refine wpAnyH_takeG (i := 0) (by kernel_rfl) (by kernel_rfl) (by kernel_rfl) (fun _ _ _ _ _ h => h) hS ?_; intro oi hoi; simp only [List.getElem?_toArray, List.getElem?_cons_succ, List.getElem?_cons_zero] at hoi; cases hoi; refine ⟨?_, by rfl, ?_, ?_⟩; rotate_left; (focus (intro wS hSw; skip; go_simp; (first | done | with_reducible rfl))); (try simp only [Act.put, List.setIfInBounds_toArray, List.set_cons_zero, List.set_cons_succ]))
     (refine wpAnyH_takeG (i := 1) (by kernel_rfl) (by kernel_rfl) (by kernel_rfl) (fun _ _ _ _ _ h => h) hS ?_; intro oi hoi; simp only [List.getElem?_toArray, List.getElem?_cons_succ, List.getElem?_cons_zero] at hoi; cases hoi; refine ⟨?_, by rfl, ?_, ?_⟩; rotate_left; (focus (intro wS hSw; have g0 := (blk_cell (blk_kept HG1.out hSw.1 id) 0).trans rfl; have g1 := (blk_cell (blk_kept HG1.out hSw.1 id) 1).trans rfl; have g2 := (blk_cell (blk_kept HG1.out hSw.1 id) 2).trans rfl; have g3 := (blk_cell (blk_kept HG1.out hSw.1 id) 3).trans rfl; have g4 := (blk_cell (blk_kept HG1.out hSw.1 id) 4).trans rfl; go_simp; (first | done | with_reducible rfl))); (try simp only [Act.put, List.setIfInBounds_toArray, List.set_cons_zero, List.set_cons_succ]))
     (refine wpAnyH_oneG (i := 2) (by kernel_rfl) ?_; intro oi hoi K' hK; simp only [List.getElem?_toArray, List.getElem?_cons_succ, List.getElem?_cons_zero] at hoi; cases hoi; go_simp; refine (HVV.out _ hS.1 hS.2).mono ?_; rintro r w2 ⟨rfl, hB2, hK2⟩; have HB2 := Lib.hid hB2; have HK2 := Lib.hid (hS.1.then_ hK2 (fun _ h => h.elim)); clear hB2 hK2; go_wp2_with fail)
     (refine hK.out _ _ ?_ (fun hS => ?_); (focus (exact ⟨HK2.out, HB2.out⟩)); clear hK K'; (try simp only [Act.put, List.setIfInBounds_toArray, List.set_cons_zero, List.set_cons_succ]))
     (refine wpAnyH_takeG (i := 3) (by kernel_rfl) (by kernel_rfl) (by kernel_rfl) (fun _ _ _ _ _ h => h) hS ?_; intro oi hoi; simp only [List.getElem?_toArray, List.getElem?_cons_succ, List.getElem?_cons_zero] at hoi; cases hoi; refine ⟨?_, by rfl, ?_, ?_⟩; rotate_left; (focus (intro wS hSw; skip; go_simp; (first | done | with_reducible rfl))); (try simp only [Act.put, List.setIfInBounds_toArray, List.set_cons_zero, List.set_cons_succ])); (refine wpAnyH_takeG (i := 4) (by kernel_rfl) (by kernel_rfl) (by kernel_rfl) (fun _ _ _ _ _ h => h) hS ?_; intro oi hoi; simp only [List.getElem?_toArray, List.getElem?_cons_succ, List.getElem?_cons_zero] at hoi; cases hoi; refine ⟨?_, by rfl, ?_, ?_⟩; rotate_left; (focus (intro wS hSw; skip; go_simp; (first | done | with_reducible rfl))); (try simp only [Act.put, List.setIfInBounds_toArray, List.set_cons_zero, List.set_cons_succ])); (refine wpAnyH_takeG (i := 5) (by kernel_rfl) (by kernel_rfl) (by kernel_rfl) (fun _ _ _ _ _ h => h) hS ?_; intro oi hoi; simp only [List.getElem?_toArray, List.getElem?_cons_succ, List.getElem?_cons_zero] at hoi; cases hoi; refine ⟨?_, by rfl, ?_, ?_⟩; rotate_left; (focus (intro wS hSw; skip; go_simp; (first | done | with_reducible rfl))); (try simp only [Act.put, List.setIfInBounds_toArray, List.set_cons_zero, List.set_cons_succ])); (refine wpAnyH_takeG (i := 6) (by kernel_rfl) (by kernel_rfl) (by kernel_rfl) (fun _ _ _ _ _ h => h) hS ?_; intro oi hoi; simp only [List.getElem?_toArray, List.getElem?_cons_succ, List.getElem?_cons_zero] at hoi; cases hoi; refine ⟨?_, by rfl, ?_, ?_⟩; rotate_left; (focus (intro wS hSw; skip; go_simp; (first | done | with_reducible rfl))); (try simp only [Act.put, List.setIfInBounds_toArray, List.set_cons_zero, List.set_cons_succ])); (refine wpAnyH_takeG (i := 7) (by kernel_rfl) (by kernel_rfl) (by kernel_rfl) (fun _ _ _ _ _ h => h) hS ?_; intro oi hoi; simp only [List.getElem?_toArray, List.getElem?_cons_succ, List.getElem?_cons_zero] at hoi; cases hoi; refine ⟨?_, by rfl, ?_, ?_⟩; rotate_left; (focus (intro wS hSw; skip; go_simp; (first | done | with_reducible rfl))); (try simp only [Act.put, List.setIfInBounds_toArray, List.set_cons_zero, List.set_cons_succ])); (refine wpAnyH_offG (i := 8) (by kernel_rfl) (by kernel_rfl) (by kernel_rfl) (fun _ _ _ _ _ h => h) hS ?_; intro oi hoi; simp only [List.getElem?_toArray, List.getElem?_cons_succ, List.getElem?_cons_zero] at hoi; cases hoi; refine ⟨by rfl, ?_⟩; (try simp only [Act.put, List.setIfInBounds_toArray, List.set_cons_zero, List.set_cons_succ])); (refine wpAnyH_offG (i := 9) (by kernel_rfl) (by kernel_rfl) (by kernel_rfl) (fun _ _ _ _ _ h => h) hS ?_; intro oi hoi; simp only [List.getElem?_toArray, List.getElem?_cons_succ, List.getElem?_cons_zero] at hoi; cases hoi; refine ⟨by rfl, ?_⟩; (try simp only [Act.put, List.setIfInBounds_toArray, List.set_cons_zero, List.set_cons_succ])); (refine wpAnyH_offG (i := 10) (by kernel_rfl) (by kernel_rfl) (by kernel_rfl) (fun _ _ _ _ _ h => h) hS ?_; intro oi hoi; simp only [List.getElem?_toArray, List.getElem?_cons_succ, List.getElem?_cons_zero] at hoi; cases hoi; refine ⟨by rfl, ?_⟩; (try simp only [Act.put, List.setIfInBounds_toArray, List.set_cons_zero, List.set_cons_succ])); (refine wpAnyH_offG (i := 11) (by kernel_rfl) (by kernel_rfl) (by kernel_rfl) (fun _ _ _ _ _ h => h) hS ?_; intro oi hoi; simp only [List.getElem?_toArray, List.getElem?_cons_succ, List.getElem?_cons_zero] at hoi; cases hoi; refine ⟨by rfl, ?_⟩; (try simp only [Act.put, List.setIfInBounds_toArray, List.set_cons_zero, List.set_cons_succ])); (refine wpAnyH_offG (i := 12) (by kernel_rfl) (by kernel_rfl) (by kernel_rfl) (fun _ _ _ _ _ h => h) hS ?_; intro oi hoi; simp only [List.getElem?_toArray, List.getElem?_cons_succ, List.getElem?_cons_zero] at hoi; cases hoi; refine ⟨by rfl, ?_⟩; (try simp only [Act.put, List.setIfInBounds_toArray, List.set_cons_zero, List.set_cons_succ])); (refine wpAnyH_offG (i := 13) (by kernel_rfl) (by kernel_rfl) (by kernel_rfl) (fun _ _ _ _ _ h => h) hS ?_; intro oi hoi; simp only [List.getElem?_toArray, List.getElem?_cons_succ, List.getElem?_cons_zero] at hoi; cases hoi; refine ⟨by rfl, ?_⟩; (try simp only [Act.put, List.setIfInBounds_toArray, List.set_cons_zero, List.set_cons_succ])); (refine wpAnyH_offG (i := 14) (by kernel_rfl) (by kernel_rfl) (by kernel_rfl) (fun _ _ _ _ _ h => h) hS ?_; intro oi hoi; simp only [List.getElem?_toArray, List.getElem?_cons_succ, List.getElem?_cons_zero] at hoi; cases hoi; refine ⟨by rfl, ?_⟩; (try simp only [Act.put, List.setIfInBounds_toArray, List.set_cons_zero, List.set_cons_succ])); (refine wpAnyH_offG (i := 15) (by kernel_rfl) (by kernel_rfl) (by kernel_rfl) (fun _ _ _ _ _ h => h) hS ?_; intro oi hoi; simp only [List.getElem?_toArray, List.getElem?_cons_succ, List.getElem?_cons_zero] at hoi; cases hoi; refine ⟨by rfl, ?_⟩; (try simp only [Act.put, List.setIfInBounds_toArray, List.set_cons_zero, List.set_cons_succ])); (refine wpAnyH_offG (i := 16) (by kernel_rfl) (by kernel_rfl) (by kernel_rfl) (fun _ _ _ _ _ h => h) hS ?_; intro oi hoi; simp only [List.getElem?_toArray, List.getElem?_cons_succ, List.getElem?_cons_zero] at hoi; cases hoi; refine ⟨by rfl, ?_⟩; (try simp only [Act.put, List.setIfInBounds_toArray, List.set_cons_zero, List.set_cons_succ])); (refine wpAnyH_takeG (i := 17) (by kernel_rfl) (by kernel_rfl) (by kernel_rfl) (fun _ _ _ _ _ h => h) hS ?_; intro oi hoi; simp only [List.getElem?_toArray, List.getElem?_cons_succ, List.getElem?_cons_zero] at hoi; cases hoi; refine ⟨?_, by rfl, ?_, ?_⟩; rotate_left; (focus (intro wS hSw; skip; go_simp; (first | done | with_reducible rfl))); (try simp only [Act.put, List.setIfInBounds_toArray, List.set_cons_zero, List.set_cons_succ])); (refine wpAnyH_takeG (i := 18) (by kernel_rfl) (by kernel_rfl) (by kernel_rfl) (fun _ _ _ _ _ h => h) hS ?_; intro oi hoi; simp only [List.getElem?_toArray, List.getElem?_cons_succ, List.getElem?_cons_zero] at hoi; cases hoi; refine ⟨?_, by rfl, ?_, ?_⟩; rotate_left; (focus (intro wS hSw; skip; go_simp; (first | done | with_reducible rfl))); (try simp only [Act.put, List.setIfInBounds_toArray, List.set_cons_zero, List.set_cons_succ]))
     refine wpAnyH_done (by kernel_rfl) ?_ _
     refine NoPanic.normal ?_
     go_wp2_with fail
     go_roundg (l.length - 1)
     case measure => have := HM.out; omega
     case rel => exact ⟨1, by go_num, by omega, ⟨by omega⟩, ⟨by rw [HE.out]; show _ = risB v o (some (l.getD 0 z97)) _; rw [HXX.out]⟩, ⟨fun j hj => by obtain rfl : j = 0 := (by omega); rw [HXX.out]; exact HVX.out⟩, ⟨HK.out.then_ (HK1.out.then_ HK2.out (fun _ h => h.elim)) (fun _ h => h.elim)⟩, ⟨HB2.out⟩⟩
    | succ j =>
     obtain ⟨ad', hA, d0, d1, d2, d3, d4⟩ := at_T97 HCr.out (j : Int) (by omega) (by omega)
     cases hA
     rw [show rd_T97 l (j : Int) = l.getD j z97 by simp [rd_T97]] at d0 d1 d2 d3 d4
     simp only [Int.toNat_natCast] at d0 d1 d2 d3 d4
     obtain ⟨y, hy⟩ : ∃ y, l.getD j z97 = y := ⟨_, rfl⟩
     have hvy := HAll.out j (by omega)
     rw [hy] at d0 d1 d2 d3 d4 hvy
     have HVT := Lib.hid (show vb = (decide (o y x < 0) && risB v o (some x) (l.drop (j + 1 + 1))) by rw [HVS.out]; show (true && (decide (o (l.getD j z97) x < 0) && _)) = _; rw [hy]; rfl)
     have HF0 := Lib.hid (fun W (hk : Kept W1 W (fun _ => False)) => cell_kept d0 (HK1.out.then_ hk (fun _ h => h.elim)) id)
     have HF1 := Lib.hid (fun W (hk : Kept W1 W (fun _ => False)) => cell_kept d1 (HK1.out.then_ hk (fun _ h => h.elim)) id)
     have HF2 := Lib.hid (fun W (hk : Kept W1 W (fun _ => False)) => cell_kept d2 (HK1.out.then_ hk (fun _ h => h.elim)) id)
     have HF3 := Lib.hid (fun W (hk : Kept W1 W (fun _ => False)) => cell_kept d3 (HK1.out.then_ hk (fun _ h => h.elim)) id)
     have HF4 := Lib.hid (fun W (hk : Kept W1 W (fun _ => False)) => cell_kept d4 (HK1.out.then_ hk (fun _ h => h.elim)) id)
     have HOO := Lib.hid (fun W (hb : Below w0.heap.size w0 W) => HO0.out W y x hvy HVX.out hb)
     have hw1 : IntKind.i64.wrap (((j + 1 : Nat) : Int) - 1) = (j : Int) := by rw [IntKind.wrap_i64]; omega
     have hw2 : ((j + 1 : Nat) : Int) - 1 = (j : Int) := by omega
     have hw3 : IntKind.i64.wrap (j : Int) = (j : Int) := by rw [IntKind.wrap_i64]; omega
     have hjl : j < l.length := by omega
     have hj0 : 0 ≤ (j : Int) := by omega
     have hp : decide (0 < ((j + 1 : Nat) : Int)) = true := decide_eq_true (by omega)
     clear hx hy hvy d0 d1 d2 d3 d4
     generalize o y x = oyx at HVT HOO
     by_cases hle : 0 ≤ oyx
     ·
      have d1 : decide (0 ≤ oyx) = true := decide_eq_true hle
      have HE := Lib.hid (show vb = false by rw [HVT.out, show decide (oyx < 0) = false from decide_eq_false (by omega)]; rfl)
      clear hle
      go_wp2_with fail
      rw [HW1.out]
      refine wp_region_noPanic ?_
      refine wp_region_held_drew (S := fun W => Kept W1 W (fun _ => False) ∧ Below w0.heap.size w0 W) (by kernel_rfl) ⟨(Kept.refl _ _).drew, below_drew HB1.out⟩ (fun hS => ?_)
      (refine wpAnyH_takeG (i := 0) (by kernel_rfl) (by kernel_rfl) (by kernel_rfl) (fun _ _ _ _ _ h => h) hS ?_; intro oi hoi; simp only [List.getElem?_toArray, List.getElem?_cons_succ, List.getElem?_cons_zero] at hoi; cases hoi; refine ⟨?_, by rfl, ?_, ?_⟩; rotate_left; (focus (intro wS hSw; skip; go_simp; (first | done | with_reducible rfl))); (try simp only [Act.put, List.setIfInBounds_toArray, List.set_cons_zero, List.set_cons_succ]))
      (refine wpAnyH_takeG (i := 1) (by kernel_rfl) (by kernel_rfl) (by kernel_rfl) (fun _ _ _ _ _ h => h) hS ?_; intro oi hoi; simp only [List.getElem?_toArray, List.getElem?_cons_succ, List.getElem?_cons_zero] at hoi; cases hoi; refine ⟨?_, by rfl, ?_, ?_⟩; rotate_left; (focus (intro wS hSw; have g0 := (blk_cell (blk_kept HG1.out hSw.1 id) 0).trans rfl; have g1 := (blk_cell (blk_kept HG1.out hSw.1 id) 1).trans rfl; have g2 := (blk_cell (blk_kept HG1.out hSw.1 id) 2).trans rfl; have g3 := (blk_cell (blk_kept HG1.out hSw.1 id) 3).trans rfl; have g4 := (blk_cell (blk_kept HG1.out hSw.1 id) 4).trans rfl; go_simp; (first | done | with_reducible rfl))); (try simp only [Act.put, List.setIfInBounds_toArray, List.set_cons_zero, List.set_cons_succ]))
      (refine wpAnyH_oneG (i := 2) (by kernel_rfl) ?_; intro oi hoi K' hK; simp only [List.getElem?_toArray, List.getElem?_cons_succ, List.getElem?_cons_zero] at hoi; cases hoi; go_simp; refine (HVV.out _ hS.1 hS.2).mono ?_; rintro r w2 ⟨rfl, hB2, hK2⟩; have HB2 := Lib.hid hB2; have HK2 := Lib.hid (hS.1.then_ hK2 (fun _ h => h.elim)); clear hB2 hK2; go_wp2_with fail)
      (refine hK.out _ _ ?_ (fun hS => ?_); (focus (exact ⟨HK2.out, HB2.out⟩)); clear hK K'; (try simp only [Act.put, List.setIfInBounds_toArray, List.set_cons_zero, List.set_cons_succ]))
      (refine wpAnyH_takeG (i := 3) (by kernel_rfl) (by kernel_rfl) (by kernel_rfl) (fun _ _ _ _ _ h => h) hS ?_; intro oi hoi; simp only [List.getElem?_toArray, List.getElem?_cons_succ, List.getElem?_cons_zero] at hoi; cases hoi; refine ⟨?_, by rfl, ?_, ?_⟩; rotate_left; (focus (intro wS hSw; skip; go_simp; (first | done | with_reducible rfl))); (try simp only [Act.put, List.setIfInBounds_toArray, List.set_cons_zero, List.set_cons_succ])); (refine wpAnyH_takeG (i := 4) (by kernel_rfl) (by kernel_rfl) (by kernel_rfl) (fun _ _ _ _ _ h => h) hS ?_; intro oi hoi; simp only [List.getElem?_toArray, List.getElem?_cons_succ, List.getElem?_cons_zero] at hoi; cases hoi; refine ⟨?_, by rfl, ?_, ?_⟩; rotate_left; (focus (intro wS hSw; skip; go_simp; (first | done | with_reducible rfl))); (try simp only [Act.put, List.setIfInBounds_toArray, List.set_cons_zero, List.set_cons_succ])); (refine wpAnyH_takeG (i := 5) (by kernel_rfl) (by kernel_rfl) (by kernel_rfl) (fun _ _ _ _ _ h => h) hS ?_; intro oi hoi; simp only [List.getElem?_toArray, List.getElem?_cons_succ, List.getElem?_cons_zero] at hoi; cases hoi; refine ⟨?_, by rfl, ?_, ?_⟩; rotate_left; (focus (intro wS hSw; skip; go_simp; (first | done | with_reducible rfl))); (try simp only [Act.put, List.setIfInBounds_toArray, List.set_cons_zero, List.set_cons_succ])); (refine wpAnyH_takeG (i := 6) (by kernel_rfl) (by kernel_rfl) (by kernel_rfl) (fun _ _ _ _ _ h => h) hS ?_; intro oi hoi; simp only [List.getElem?_toArray, List.getElem?_cons_succ, List.getElem?_cons_zero] at hoi; cases hoi; refine ⟨?_, by rfl, ?_, ?_⟩; rotate_left; (focus (intro wS hSw; skip; go_simp; (first | done | with_reducible rfl))); (try simp only [Act.put, List.setIfInBounds_toArray, List.set_cons_zero, List.set_cons_succ])); (refine wpAnyH_takeG (i := 7) (by kernel_rfl) (by kernel_rfl) (by kernel_rfl) (fun _ _ _ _ _ h => h) hS ?_; intro oi hoi; simp only [List.getElem?_toArray, List.getElem?_cons_succ, List.getElem?_cons_zero] at hoi; cases hoi; refine ⟨?_, by rfl, ?_, ?_⟩; rotate_left; (focus (intro wS hSw; skip; go_simp; (first | done | with_reducible rfl))); (try simp only [Act.put, List.setIfInBounds_toArray, List.set_cons_zero, List.set_cons_succ])); (refine wpAnyH_takeG (i := 8) (by kernel_rfl) (by kernel_rfl) (by kernel_rfl) (fun _ _ _ _ _ h => h) hS ?_; intro oi hoi; simp only [List.getElem?_toArray, List.getElem?_cons_succ, List.getElem?_cons_zero] at hoi; cases hoi; refine ⟨?_, by rfl, ?_, ?_⟩; rotate_left; (focus (intro wS hSw; skip; go_simp; (first | done | with_reducible rfl))); (try simp only [Act.put, List.setIfInBounds_toArray, List.set_cons_zero, List.set_cons_succ])); (refine wpAnyH_takeG (i := 9) (by kernel_rfl) (by kernel_rfl) (by kernel_rfl) (fun _ _ _ _ _ h => h) hS ?_; intro oi hoi; simp only [List.getElem?_toArray, List.getElem?_cons_succ, List.getElem?_cons_zero] at hoi; cases hoi; refine ⟨?_, by rfl, ?_, ?_⟩; rotate_left; (focus (intro wS hSw; skip; go_simp; (first | done | with_reducible rfl))); (try simp only [Act.put, List.setIfInBounds_toArray, List.set_cons_zero, List.set_cons_succ])); (refine wpAnyH_takeG (i := 10) (by kernel_rfl) (by kernel_rfl) (by kernel_rfl) (fun _ _ _ _ _ h => h) hS ?_; intro oi hoi; simp only [List.getElem?_toArray, List.getElem?_cons_succ, List.getElem?_cons_zero] at hoi; cases hoi; refine ⟨?_, by rfl, ?_, ?_⟩; rotate_left; (focus (intro wS hSw; skip; go_simp; (first | done | with_reducible rfl))); (try simp only [Act.put, List.setIfInBounds_toArray, List.set_cons_zero, List.set_cons_succ])); (refine wpAnyH_takeG (i := 11) (by kernel_rfl) (by kernel_rfl) (by kernel_rfl) (fun _ _ _ _ _ h => h) hS ?_; intro oi hoi; simp only [List.getElem?_toArray, List.getElem?_cons_succ, List.getElem?_cons_zero] at hoi; cases hoi; refine ⟨?_, by rfl, ?_, ?_⟩; rotate_left; (focus (intro wS hSw; skip; go_simp; (first | done | with_reducible rfl))); (try simp only [Act.put, List.setIfInBounds_toArray, List.set_cons_zero, List.set_cons_succ])); (refine wpAnyH_takeG (i := 12) (by kernel_rfl) (by kernel_rfl) (by kernel_rfl) (fun _ _ _ _ _ h => h) hS ?_; intro oi hoi; simp only [List.getElem?_toArray, List.getElem?_cons_succ, List.getElem?_cons_zero] at hoi; cases hoi; refine ⟨?_, by rfl, ?_, ?_⟩; rotate_left; (focus (intro wS hSw; skip; go_simp; (first | done | with_reducible rfl))); (try simp only [Act.put, List.setIfInBounds_toArray, List.set_cons_zero, List.set_cons_succ]))
      (refine wpAnyH_takeG (i := 13) (by kernel_rfl) (by kernel_rfl) (by kernel_rfl) (fun _ _ _ _ _ h => h) hS ?_; intro oi hoi; simp only [List.getElem?_toArray, List.getElem?_cons_succ, List.getElem?_cons_zero] at hoi; cases hoi; refine ⟨?_, by rfl, ?_, ?_⟩; rotate_left; (focus (intro wS hSw; have p0 := HF0.out _ hSw.1; have p1 := HF1.out _ hSw.1; have p2 := HF2.out _ hSw.1; have p3 := HF3.out _ hSw.1; have p4 := HF4.out _ hSw.1; go_simp; (first | done | with_reducible rfl))); (try simp only [Act.put, List.setIfInBounds_toArray, List.set_cons_zero, List.set_cons_succ]))
      (refine wpAnyH_takeG (i := 14) (by kernel_rfl) (by kernel_rfl) (by kernel_rfl) (fun _ _ _ _ _ h => h) hS ?_; intro oi hoi; simp only [List.getElem?_toArray, List.getElem?_cons_succ, List.getElem?_cons_zero] at hoi; cases hoi; refine ⟨?_, by rfl, ?_, ?_⟩; rotate_left; (focus (intro wS hSw; have g0 := (blk_cell (blk_kept HG1.out hSw.1 id) 0).trans rfl; have g1 := (blk_cell (blk_kept HG1.out hSw.1 id) 1).trans rfl; have g2 := (blk_cell (blk_kept HG1.out hSw.1 id) 2).trans rfl; have g3 := (blk_cell (blk_kept HG1.out hSw.1 id) 3).trans rfl; have g4 := (blk_cell (blk_kept HG1.out hSw.1 id) 4).trans rfl; go_simp; (first | done | with_reducible rfl))); (try simp only [Act.put, List.setIfInBounds_toArray, List.set_cons_zero, List.set_cons_succ]))
      (refine wpAnyH_oneG (i := 15) (by kernel_rfl) ?_; intro oi hoi K' hK; simp only [List.getElem?_toArray, List.getElem?_cons_succ, List.getElem?_cons_zero] at hoi; cases hoi; go_simp; refine (HOO.out _ hS.2).mono ?_; rintro r w3 ⟨rfl, hB3, hK3⟩; have HB3 := Lib.hid hB3; have HK3 := Lib.hid (hS.1.then_ hK3 (fun _ h => h.elim)); clear hB3 hK3; go_wp2_with fail)
      (refine hK.out _ _ ?_ (fun hS => ?_); (focus (exact ⟨HK3.out, HB3.out⟩)); clear hK K'; (try simp only [Act.put, List.setIfInBounds_toArray, List.set_cons_zero, List.set_cons_succ]))
      (refine wpAnyH_takeG (i := 16) (by kernel_rfl) (by kernel_rfl) (by kernel_rfl) (fun _ _ _ _ _ h => h) hS ?_; intro oi hoi; simp only [List.getElem?_toArray, List.getElem?_cons_succ, List.getElem?_cons_zero] at hoi; cases hoi; refine ⟨?_, by rfl, ?_, ?_⟩; rotate_left; (focus (intro wS hSw; skip; go_simp; (first | done | with_reducible rfl))); (try simp only [Act.put, List.setIfInBounds_toArray, List.set_cons_zero, List.set_cons_succ])); (refine wpAnyH_takeG (i := 17) (by kernel_rfl) (by kernel_rfl) (by kernel_rfl) (fun _ _ _ _ _ h => h) hS ?_; intro oi hoi; simp only [List.getElem?_toArray, List.getElem?_cons_succ, List.getElem?_cons_zero] at hoi; cases hoi; refine ⟨?_, by rfl, ?_, ?_⟩; rotate_left; (focus (intro wS hSw; skip; go_simp; (first | done | with_reducible rfl))); (try simp only [Act.put, List.setIfInBounds_toArray, List.set_cons_zero, List.set_cons_succ])); (refine wpAnyH_takeG (i := 18) (by kernel_rfl) (by kernel_rfl) (by kernel_rfl) (fun _ _ _ _ _ h => h) hS ?_; intro oi hoi; simp only [List.getElem?_toArray, List.getElem?_cons_succ, List.getElem?_cons_zero] at hoi; cases hoi; refine ⟨?_, by rfl, ?_, ?_⟩; rotate_left; (focus (intro wS hSw; skip; go_simp; (first | done | with_reducible rfl))); (try simp only [Act.put, List.setIfInBounds_toArray, List.set_cons_zero, List.set_cons_succ]))
      refine wpAnyH_done (by kernel_rfl) ?_ _
      refine NoPanic.normal ?_
      go_wp2_with fail
      go_ret
      exact ⟨by rw [HE.out]; rfl, HB3.out, HK.out.then_ (HK1.out.then_ HK3.out (fun _ h => h.elim)) (fun _ h => h.elim)⟩
     ·
      have d1 : decide (0 ≤ oyx) = false := decide_eq_false hle
      have HE := Lib.hid (show vb = risB v o (some x) (l.drop (j + 1 + 1)) by rw [HVT.out, show decide (oyx < 0) = true from decide_eq_true (by omega)]; rfl)
      clear hle
      go_wp2_with fail
      rw [HW1.out]
      refine wp_region_noPanic ?_
      refine wp_region_held_drew (S := fun W => Kept W1 W (fun _ => False) ∧ Below w0.heap.size w0 W) (by kernel_rfl) ⟨(Kept.refl _ _).drew, below_drew HB1.out⟩ (fun hS => ?_)
      (refine wpAnyH_takeG (i := 0) (by kernel_rfl) (by kernel_rfl) (by kernel_rfl) (fun _ _ _ _ _ h => h) hS ?_; intro oi hoi; simp only [List.getElem?_toArray, List.getElem?_cons_succ, List.getElem?_cons_zero] at hoi; cases hoi; refine ⟨?_, by rfl, ?_, ?_⟩; rotate_left; (focus (intro wS hSw; skip; go_simp; (first | done | with_reducible rfl))); (try simp only [Act.put, List.setIfInBounds_toArray, List.set_cons_zero, List.set_cons_succ]))
      (refine wpAnyH_takeG (i := 1) (by kernel_rfl) (by kernel_rfl) (by kernel_rfl) (fun _ _ _ _ _ h => h) hS ?_; intro oi hoi; simp only [List.getElem?_toArray, List.getElem?_cons_succ, List.getElem?_cons_zero] at hoi; cases hoi; refine ⟨?_, by rfl, ?_, ?_⟩; rotate_left; (focus (intro wS hSw; have g0 := (blk_cell (blk_kept HG1.out hSw.1 id) 0).trans rfl; have g1 := (blk_cell (blk_kept HG1.out hSw.1 id) 1).trans rfl; have g2 := (blk_cell (blk_kept HG1.out hSw.1 id) 2).trans rfl; have g3 := (blk_cell (blk_kept HG1.out hSw.1 id) 3).trans rfl; have g4 := (blk_cell (blk_kept HG1.out hSw.1 id) 4).trans rfl; go_simp; (first | done | with_reducible rfl))); (try simp only [Act.put, List.setIfInBounds_toArray, List.set_cons_zero, List.set_cons_succ]))
      (refine wpAnyH_oneG (i := 2) (by kernel_rfl) ?_; intro oi hoi K' hK; simp only [List.getElem?_toArray, List.getElem?_cons_succ, List.getElem?_cons_zero] at hoi; cases hoi; go_simp; refine (HVV.out _ hS.1 hS.2).mono ?_; rintro r w2 ⟨rfl, hB2, hK2⟩; have HB2 := Lib.hid hB2; have HK2 := Lib.hid (hS.1.then_ hK2 (fun _ h => h.elim)); clear hB2 hK2; go_wp2_with fail)
      (refine hK.out _ _ ?_ (fun hS => ?_); (focus (exact ⟨HK2.out, HB2.out⟩)); clear hK K'; (try simp only [Act.put, List.setIfInBounds_toArray, List.set_cons_zero, List.set_cons_succ]))
      (refine wpAnyH_takeG (i := 3) (by kernel_rfl) (by kernel_rfl) (by kernel_rfl) (fun _ _ _ _ _ h => h) hS ?_; intro oi hoi; simp only [List.getElem?_toArray, List.getElem?_cons_succ, List.getElem?_cons_zero] at hoi; cases hoi; refine ⟨?_, by rfl, ?_, ?_⟩; rotate_left; (focus (intro wS hSw; skip; go_simp; (first | done | with_reducible rfl))); (try simp only [Act.put, List.setIfInBounds_toArray, List.set_cons_zero, List.set_cons_succ])); (refine wpAnyH_takeG (i := 4) (by kernel_rfl) (by kernel_rfl) (by kernel_rfl) (fun _ _ _ _ _ h => h) hS ?_; intro oi hoi; simp only [List.getElem?_toArray, List.getElem?_cons_succ, List.getElem?_cons_zero] at hoi; cases hoi; refine ⟨?_, by rfl, ?_, ?_⟩; rotate_left; (focus (intro wS hSw; skip; go_simp; (first | done | with_reducible rfl))); (try simp only [Act.put, List.setIfInBounds_toArray, List.set_cons_zero, List.set_cons_succ])); (refine wpAnyH_takeG (i := 5) (by kernel_rfl) (by kernel_rfl) (by kernel_rfl) (fun _ _ _ _ _ h => h) hS ?_; intro oi hoi; simp only [List.getElem?_toArray, List.getElem?_cons_succ, List.getElem?_cons_zero] at hoi; cases hoi; refine ⟨?_, by rfl, ?_, ?_⟩; rotate_left; (focus (intro wS hSw; skip; go_simp; (first | done | with_reducible rfl))); (try simp only [Act.put, List.setIfInBounds_toArray, List.set_cons_zero, List.set_cons_succ])); (refine wpAnyH_takeG (i := 6) (by kernel_rfl) (by kernel_rfl) (by kernel_rfl) (fun _ _ _ _ _ h => h) hS ?_; intro oi hoi; simp only [List.getElem?_toArray, List.getElem?_cons_succ, List.getElem?_cons_zero] at hoi; cases hoi; refine ⟨?_, by rfl, ?_, ?_⟩; rotate_left; (focus (intro wS hSw; skip; go_simp; (first | done | with_reducible rfl))); (try simp only [Act.put, List.setIfInBounds_toArray, List.set_cons_zero, List.set_cons_succ])); (refine wpAnyH_takeG (i := 7) (by kernel_rfl) (by kernel_rfl) (by kernel_rfl) (fun _ _ _ _ _ h => h) hS ?_; intro oi hoi; simp only [List.getElem?_toArray, List.getElem?_cons_succ, List.getElem?_cons_zero] at hoi; cases hoi; refine ⟨?_, by rfl, ?_, ?_⟩; rotate_left; (focus (intro wS hSw; skip; go_simp; (first | done | with_reducible rfl))); (try simp only [Act.put, List.setIfInBounds_toArray, List.set_cons_zero, List.set_cons_succ])); (refine wpAnyH_takeG (i := 8) (by kernel_rfl) (by kernel_rfl) (by kernel_rfl) (fun _ _ _ _ _ h => h) hS ?_; intro oi hoi; simp only [List.getElem?_toArray, List.getElem?_cons_succ, List.getElem?_cons_zero] at hoi; cases hoi; refine ⟨?_, by rfl, ?_, ?_⟩; rotate_left; (focus (intro wS hSw; skip; go_simp; (first | done | with_reducible rfl))); (try simp only [Act.put, List.setIfInBounds_toArray, List.set_cons_zero, List.set_cons_succ])); (refine wpAnyH_takeG (i := 9) (by kernel_rfl) (by kernel_rfl) (by kernel_rfl) (fun _ _ _ _ _ h => h) hS ?_; intro oi hoi; simp only [List.getElem?_toArray, List.getElem?_cons_succ, List.getElem?_cons_zero] at hoi; cases hoi; refine ⟨?_, by rfl, ?_, ?_⟩; rotate_left; (focus (intro wS hSw; skip; go_simp; (first | done | with_reducible rfl))); (try simp only [Act.put, List.setIfInBounds_toArray, List.set_cons_zero, List.set_cons_succ])); (refine wpAnyH_takeG (i := 10) (by kernel_rfl) (by kernel_rfl) (by kernel_rfl) (fun _ _ _ _ _ h => h) hS ?_; intro oi hoi; simp only [List.getElem?_toArray, List.getElem?_cons_succ, List.getElem?_cons_zero] at hoi; cases hoi; refine ⟨?_, by rfl, ?_, ?_⟩; rotate_left; (focus (intro wS hSw; skip; go_simp; (first | done | with_reducible rfl))); (try simp only [Act.put, List.setIfInBounds_toArray, List.set_cons_zero, List.set_cons_succ])); (refine wpAnyH_takeG (i := 11) (by kernel_rfl) (by kernel_rfl) (by kernel_rfl) (fun _ _ _ _ _ h => h) hS ?_; intro oi hoi; simp only [List.getElem?_toArray, List.getElem?_cons_succ, List.getElem?_cons_zero] at hoi; cases hoi; refine ⟨?_, by rfl, ?_, ?_⟩; rotate_left; (focus (intro wS hSw; skip; go_simp; (first | done | with_reducible rfl))); (try simp only [Act.put, List.setIfInBounds_toArray, List.set_cons_zero, List.set_cons_succ])); (refine wpAnyH_takeG (i := 12) (by kernel_rfl) (by kernel_rfl) (by kernel_rfl) (fun _ _ _ _ _ h => h) hS ?_; intro oi hoi; simp only [List.getElem?_toArray, List.getElem?_cons_succ, List.getElem?_cons_zero] at hoi; cases hoi; refine ⟨?_, by rfl, ?_, ?_⟩; rotate_left; (focus (intro wS hSw; skip; go_simp; (first | done | with_reducible rfl))); (try simp only [Act.put, List.setIfInBounds_toArray, List.set_cons_zero, List.set_cons_succ]))
      (refine wpAnyH_takeG (i := 13) (by kernel_rfl) (by kernel_rfl) (by kernel_rfl) (fun _ _ _ _ _ h => h) hS ?_; intro oi hoi; simp only [List.getElem?_toArray, List.getElem?_cons_succ, List.getElem?_cons_zero] at hoi; cases hoi; refine ⟨?_, by rfl, ?_, ?_⟩; rotate_left; (focus (intro wS hSw; have p0 := HF0.out _ hSw.1; have p1 := HF1.out _ hSw.1; have p2 := HF2.out _ hSw.1; have p3 := HF3.out _ hSw.1; have p4 := HF4.out _ hSw.1; go_simp; (first | done | with_reducible rfl))); (try simp only [Act.put, List.setIfInBounds_toArray, List.set_cons_zero, List.set_cons_succ]))
      (refine wpAnyH_takeG (i := 14) (by kernel_rfl) (by kernel_rfl) (by kernel_rfl) (fun _ _ _ _ _ h => h) hS ?_; intro oi hoi; simp only [List.getElem?_toArray, List.getElem?_cons_succ, List.getElem?_cons_zero] at hoi; cases hoi; refine ⟨?_, by rfl, ?_, ?_⟩; rotate_left; (focus (intro wS hSw; have g0 := (blk_cell (blk_kept HG1.out hSw.1 id) 0).trans rfl; have g1 := (blk_cell (blk_kept HG1.out hSw.1 id) 1).trans rfl; have g2 := (blk_cell (blk_kept HG1.out hSw.1 id) 2).trans rfl; have g3 := (blk_cell (blk_kept HG1.out hSw.1 id) 3).trans rfl; have g4 := (blk_cell (blk_kept HG1.out hSw.1 id) 4).trans rfl; go_simp; (first | done | with_reducible rfl))); (try simp only [Act.put, List.setIfInBounds_toArray, List.set_cons_zero, List.set_cons_succ]))
      (refine wpAnyH_oneG (i := 15) (by kernel_rfl) ?_; intro oi hoi K' hK; simp only [List.getElem?_toArray, List.getElem?_cons_succ, List.getElem?_cons_zero] at hoi; cases hoi; go_simp; refine (HOO.out _ hS.2).mono ?_; rintro r w3 ⟨rfl, hB3, hK3⟩; have HB3 := Lib.hid hB3; have HK3 := Lib.hid (hS.1.then_ hK3 (fun _ h => h.elim)); clear hB3 hK3; go_wp2_with fail)
      (refine hK.out _ _ ?_ (fun hS => ?_); (focus (exact ⟨HK3.out, HB3.out⟩)); clear hK K'; (try simp only [Act.put, List.setIfInBounds_toArray, List.set_cons_zero, List.set_cons_succ]))
      (refine wpAnyH_takeG (i := 16) (by kernel_rfl) (by kernel_rfl) (by kernel_rfl) (fun _ _ _ _ _ h => h) hS ?_; intro oi hoi; simp only [List.getElem?_toArray, List.getElem?_cons_succ, List.getElem?_cons_zero] at hoi; cases hoi; refine ⟨?_, by rfl, ?_, ?_⟩; rotate_left; (focus (intro wS hSw; skip; go_simp; (first | done | with_reducible rfl))); (try simp only [Act.put, List.setIfInBounds_toArray, List.set_cons_zero, List.set_cons_succ])); (refine wpAnyH_takeG (i := 17) (by kernel_rfl) (by kernel_rfl) (by kernel_rfl) (fun _ _ _ _ _ h => h) hS ?_; intro oi hoi; simp only [List.getElem?_toArray, List.getElem?_cons_succ, List.getElem?_cons_zero] at hoi; cases hoi; refine ⟨?_, by rfl, ?_, ?_⟩; rotate_left; (focus (intro wS hSw; skip; go_simp; (first | done | with_reducible rfl))); (try simp only [Act.put, List.setIfInBounds_toArray, List.set_cons_zero, List.set_cons_succ])); (refine wpAnyH_takeG (i := 18) (by kernel_rfl) (by kernel_rfl) (by kernel_rfl) (fun _ _ _ _ _ h => h) hS ?_; intro oi hoi; simp only [List.getElem?_toArray, List.getElem?_cons_succ, List.getElem?_cons_zero] at hoi; cases hoi; refine ⟨?_, by rfl, ?_, ?_⟩; rotate_left; (focus (intro wS hSw; skip; go_simp; (first | done | with_reducible rfl))); (try simp only [Act.put, List.setIfInBounds_toArray, List.set_cons_zero, List.set_cons_succ]))
      refine wpAnyH_done (by kernel_rfl) ?_ _
      refine NoPanic.normal ?_
      go_wp2_with fail
      go_roundg (l.length - (j + 1 + 1))
      case measure => have := HM.out; omega
      case rel => exact ⟨j + 1 + 1, by go_num, by omega, ⟨by omega⟩, ⟨by rw [HE.out]; show _ = risB v o (some (l.getD (j + 1) z97)) _; rw [HXX.out]⟩, ⟨fun i hi => Nat.lt_succ_iff_lt_or_eq.1 hi |>.elim (fun h => HAll.out i h) (fun h => by rw [h, HXX.out]; exact HVX.out)⟩, ⟨HK.out.then_ (HK1.out.then_ HK3.out (fun _ h => h.elim)) (fun _ h => h.elim)⟩, ⟨HB3.out⟩⟩
  ·
   have q1 : decide ((k : Int) < (l.length : Int)) = false := decide_eq_false (by omega)
   have HE := Lib.hid (show vb = true by rw [HV.out, List.drop_eq_nil_of_le (by omega)]; cases prevOf z97 l k <;> rfl)
   go_wp2_with fail
   go_ret
   exact ⟨by rw [HE.out]; rfl, HBr.out, HK.out⟩
end Go.Proofs.Ytenhigpeafaidaa.Q
-- RiCap
namespace Go.Proofs.Ytenhigpeafaidaa.Q
open Go.RowKit Go.Proofs.YtenhigpeafaidaaW.PrintWords Go.Proofs.YtenhigpeafaidaaW.PrintLast Go.Proofs.YtenhigpeafaidaaW.PrintMore Go.Proofs.Ytenhigpeafaidaa.Wire
set_option linter.unusedVariables false
set_option linter.unusedSimpArgs false

theorem heap_Cap : Kd.Heap k99 := Kd.heap_iso _ (Kd.heap_pair (Kd.heap_int .i64) (Kd.heap_pair (Kd.heap_int .i64) (Kd.heap_pair (Kd.heap_int .i64) (Kd.heap_int .i64))))
theorem C_noneCap {w w' : World} {A : Option Addr} {n : Nat} {xs : List S99} (h : Kd.C k99 w A n xs) (hk : Kept w w' (fun _ => False)) : Kd.C k99 w' A n xs := heap_Cap.C (fun i hlt => hk.2 i hlt id) h
set_option maxHeartbeats 8000000 in
set_option maxRecDepth 100000 in
theorem risingCap_calls (w0 w : World) (f1 f2 : FuncId) (v : S99 → Bool) (o : S99 → S99 → Int) (A : Option Addr) (c : Nat) (l : List S99)
  (hv : ∀ (W : World) (x : S99), Below w0.heap.size w0 W → Calls Try.prog f1 #[.agg #[.int .i64 x.f0, .int .i64 x.f1, .int .i64 x.f2, .int .i64 x.f3]] W (fun r w' => r = .returned (.bool (v x)) ∧ Below w0.heap.size w0 w' ∧ Kept W w' (fun _ => False)))
  (ho : ∀ (W : World) (x y : S99), v x = true → v y = true → Below w0.heap.size w0 W → Calls Try.prog f2 #[.agg #[.int .i64 x.f0, .int .i64 x.f1, .int .i64 x.f2, .int .i64 x.f3], .agg #[.int .i64 y.f0, .int .i64 y.f1, .int .i64 y.f2, .int .i64 y.f3]] W (fun r w' => r = .returned (.int .i64 (o x y)) ∧ Below w0.heap.size w0 w' ∧ Kept W w' (fun _ => False)))
  (hen1 : ∀ (w : World) (a : Value), (callFunc f1 #[a]).run Try.prog w = .ok (.enter f1 #[a]) w) (hen2 : ∀ (w : World) (a b : Value), (callFunc f2 #[a, b]).run Try.prog w = .ok (.enter f2 #[a, b]) w)
  (hB : Below w0.heap.size w0 w) (hC : Kd.C k99 w A l.length l) (hl : l.length ≤ 100000000) :
  Calls Try.prog 72 #[.slice A l.length c, .func (.func f1) #[] #[], .func (.func f2) #[] #[]] w (fun r w' => r = .returned (.bool (risB v o none l)) ∧ Below w0.heap.size w0 w' ∧ Kept w w' (fun _ => False)) := by
 have HB := Lib.hid hB
 have HC := Lib.hid hC
 have HV0 := Lib.hid hv
 have HO0 := Lib.hid ho
 have HE1 := Lib.hid hen1
 have HE2 := Lib.hid hen2
 obtain ⟨vb, hvb⟩ : ∃ vb, risB v o none l = vb := ⟨_, rfl⟩
 have HVB := Lib.hid hvb
 rw [hvb]
 clear hB hC hvb hv ho hen1 hen2
 go_enter Try.func72, Try.ntmps72
 go_wp2_with fail
 go_loopg [11] l.length (fun g v11 w' => ∃ k : Nat, v11 = .int .i64 k ∧ k ≤ l.length ∧ Aside0 (g + k = l.length) ∧ Aside0 (vb = risB v o (prevOf z99 l k) (l.drop k)) ∧ Aside0 (∀ j, j < k → v (l.getD j z99) = true) ∧ Aside0 (Kept w w' (fun _ => False)) ∧ Aside0 (Below w0.heap.size w0 w'))
 case atStart => exact ⟨0, rfl, Nat.zero_le _, ⟨rfl⟩, ⟨HVB.out.symm⟩, ⟨fun j hj => by omega⟩, ⟨Kept.refl _ _⟩, ⟨HB.out⟩⟩
 case round =>
  obtain ⟨k, rfl, hk, HM, HV, HAll, HK, HBr⟩ := hrel
  by_cases h : k < l.length
  ·
   have q1 : decide ((k : Int) < (l.length : Int)) = true := decide_eq_true (by omega)
   have HVS := Lib.hid (HV.out.trans (risB_step v o z99 l k h))
   have HCr := Lib.hid (C_noneCap HC.out HK.out)
   obtain ⟨ad, hA, e0, e1, e2, e3⟩ := at_T99 HCr.out (k : Int) (by omega) (by omega)
   rw [show rd_T99 l (k : Int) = l.getD k z99 by simp [rd_T99]] at e0 e1 e2 e3
   simp only [Int.toNat_natCast] at e0 e1 e2 e3
   obtain ⟨x, hx⟩ : ∃ x, l.getD k z99 = x := ⟨_, rfl⟩
   rw [hx] at e0 e1 e2 e3 HVS
   subst hA
   obtain ⟨W1, hW1⟩ : ∃ W1, W1 = wr.alloc (.cells #[.int .i64 x.f0, .int .i64 x.f1, .int .i64 x.f2, .int .i64 x.f3] 99) := ⟨_, rfl⟩
   have HB1 := Lib.hid (show Below w0.heap.size w0 W1 by rw [hW1]; exact below_alloc' HBr.out _)
   have HK1 := Lib.hid (show Kept wr W1 (fun _ => False) by rw [hW1]; exact (Kept.refl _ _).alloc _)
   have HG1 := Lib.hid (show W1.heap[wr.heap.size]? = some (.cells #[.int .i64 x.f0, .int .i64 x.f1, .int .i64 x.f2, .int .i64 x.f3] 99 (0, 0)) by rw [hW1]; exact blk_new _ _)
   have HVV := Lib.hid (fun W (hk : Kept W1 W (fun _ => False)) (hb : Below w0.heap.size w0 W) => HV0.out W x hb)
   have HW1 := Lib.hid hW1.symm
   have HXX := Lib.hid hx
   clear hW1
   have hk0 : 0 ≤ (k : Int) := by omega
   have he1 := HE1.out
   have he2 := HE2.out
   obtain ⟨vx, hvx⟩ : ∃ vx, v x = vx := ⟨_, rfl⟩
   have HVX := Lib.hid hvx
   rw [hvx] at HVV HVS
   clear hvx
   cases vx with
   | false =>
     have HE := Lib.hid (show vb = false by rw [HVS.out]; cases prevOf z99 l k <;> rfl)
     clear hx he2
     go_wp2_with fail
     rw [HW1.out]
     refine wp_region_noPanic ?_
     refine wp_region_held_drew (S := fun W => Kept W1 W (fun _ => False) ∧ Below w0.heap.size w0 W) (by kernel_rfl) ⟨(Kept.refl _ _).drew, below_drew HB1.out⟩ (fun hS => ?_)
     (refine wpAnyH_takeG (i := 0) (by kernel_rfl) (by kernel_rfl) (by kernel_rfl) (fun _ _ _ _ _ h => h) hS ?_; intro oi hoi; simp only [List.getElem?_toArray, List.getElem?_cons_succ, List.getElem?_cons_zero] at hoi; cases hoi; refine ⟨?_, by rfl, ?_, ?_⟩; rotate_left; (focus (intro wS hSw; skip; go_simp; (first | done | with_reducible rfl))); (try simp only [Act.put, List.setIfInBounds_toArray, List.set_cons_zero, List.set_cons_succ]))
     (refine wpAnyH_takeG (i := 1) (by kernel_rfl) (by kernel_rfl) (by kernel_rfl) (fun _ _ _ _ _ h => h) hS ?_; intro oi hoi; simp only [List.getElem?_toArray, List.getElem?_cons_succ, List.getElem?_cons_zero] at hoi; cases hoi; refine ⟨?_, by rfl, ?_, ?_⟩; rotate_left; (focus (intro wS hSw; have g0 := (blk_cell (blk_kept HG1.out hSw.1 id) 0).trans rfl; have g1 := (blk_cell (blk_kept HG1.out hSw.1 id) 1).trans rfl; have g2 := (blk_cell (blk_kept HG1.out hSw.1 id) 2).trans rfl; have g3 := (blk_cell (blk_kept HG1.out hSw.1 id) 3).trans rfl; go_simp; (first | done | with_reducible rfl))); (try simp only [Act.put, List.setIfInBounds_toArray, List.set_cons_zero, List.set_cons_succ]))
     (refine wpAnyH_oneG (i := 2) (by kernel_rfl) ?_; intro oi hoi K' hK; simp only [List.getElem?_toArray, List.getElem?_cons_succ, List.getElem?_cons_zero] at hoi; cases hoi; go_simp; refine (HVV.out _ hS.1 hS.2).mono ?_; rintro r w2 ⟨rfl, hB2, hK2⟩; have HB2 := Lib.hid hB2; have HK2 := Lib.hid (hS.1.then_ hK2 (fun _ h => h.elim)); clear hB2 hK2; go_wp2_with fail)
     (refine hK.out _ _ ?_ (fun hS => ?_); (focus (exact ⟨HK2.out, HB2.out⟩)); clear hK K'; (try simp only [Act.put, List.setIfInBounds_toArray, List.set_cons_zero, List.set_cons_succ]))
     (refine wpAnyH_takeG (i := 3) (by kernel_rfl) (by kernel_rfl) (by kernel_rfl) (fun _ _ _ _ _ h => h) hS ?_; intro oi hoi; simp only [List.getElem?_toArray, List.getElem?_cons_succ, List.getElem?_cons_zero] at hoi; cases hoi; refine ⟨?_, by rfl, ?_, ?_⟩; rotate_left; (focus (intro wS hSw; skip; go_simp; (first | done | with_reducible rfl))); (try simp only [Act.put, List.setIfInBounds_toArray, List.set_cons_zero, List.set_cons_succ])); (refine wpAnyH_takeG (i := 4) (by kernel_rfl) (by kernel_rfl) (by kernel_rfl) (fun _ _ _ _ _ h => h) hS ?_; intro oi hoi; simp only [List.getElem?_toArray, List.getElem?_cons_succ, List.getElem?_cons_zero] at hoi; cases hoi; refine ⟨?_, by rfl, ?_, ?_⟩; rotate_left; (focus (intro wS hSw; skip; go_simp; (first | done | with_reducible rfl))); (try simp only [Act.put, List.setIfInBounds_toArray, List.set_cons_zero, List.set_cons_succ])); (refine wpAnyH_offG (i := 5) (by kernel_rfl) (by kernel_rfl) (by kernel_rfl) (fun _ _ _ _ _ h => h) hS ?_; intro oi hoi; simp only [List.getElem?_toArray, List.getElem?_cons_succ, List.getElem?_cons_zero] at hoi; cases hoi; refine ⟨by rfl, ?_⟩; (try simp only [Act.put, List.setIfInBounds_toArray, List.set_cons_zero, List.set_cons_succ])); (refine wpAnyH_offG (i := 6) (by kernel_rfl) (by kernel_rfl) (by kernel_rfl) (fun _ _ _ _ _ h => h) hS ?_; intro oi hoi; simp only [List.getElem?_toArray, List.getElem?_cons_succ, List.getElem?_cons_zero] at hoi; cases hoi; refine ⟨by rfl, ?_⟩; (try simp only [Act.put, List.setIfInBounds_toArray, List.set_cons_zero, List.set_cons_succ])); (refine wpAnyH_offG (i := 7) (by kernel_rfl) (by kernel_rfl) (by kernel_rfl) (fun _ _ _ _ _ h => h) hS ?_; intro oi hoi; simp only [List.getElem?_toArray, List.getElem?_cons_succ, List.getElem?_cons_zero] at hoi; cases hoi; refine ⟨by rfl, ?_⟩; (try simp only [Act.put, List.setIfInBounds_toArray, List.set_cons_zero, List.set_cons_succ])); (refine wpAnyH_offG (i := 8) (by kernel_rfl) (by kernel_rfl) (by kernel_rfl) (fun _ _ _ _ _ h => h) hS ?_; intro oi hoi; simp only [List.getElem?_toArray, List.getElem?_cons_succ, List.getElem?_cons_zero] at hoi; cases hoi; refine ⟨by rfl, ?_⟩; (try simp only [Act.put, List.setIfInBounds_toArray, List.set_cons_zero, List.set_cons_succ])); (refine wpAnyH_offG (i := 9) (by kernel_rfl) (by kernel_rfl) (by kernel_rfl) (fun _ _ _ _ _ h => h) hS ?_; intro oi hoi; simp only [List.getElem?_toArray, List.getElem?_cons_succ, List.getElem?_cons_zero] at hoi; cases hoi; refine ⟨by rfl, ?_⟩; (try simp only [Act.put, List.setIfInBounds_toArray, List.set_cons_zero, List.set_cons_succ])); (refine wpAnyH_offG (i := 10) (by kernel_rfl) (by kernel_rfl) (by kernel_rfl) (fun _ _ _ _ _ h => h) hS ?_; intro oi hoi; simp only [List.getElem?_toArray, List.getElem?_cons_succ, List.getElem?_cons_zero] at hoi; cases hoi; refine ⟨by rfl, ?_⟩; (try simp only [Act.put, List.setIfInBounds_toArray, List.set_cons_zero, List.set_cons_succ])); (refine wpAnyH_offG (i := 11) (by kernel_rfl) (by kernel_rfl) (by kernel_rfl) (fun _ _ _ _ _ h => h) hS ?_; intro oi hoi; simp only [List.getElem?_toArray, List.getElem?_cons_succ, List.getElem?_cons_zero] at hoi; cases hoi; refine ⟨by rfl, ?_⟩; (try simp only [Act.put, List.setIfInBounds_toArray, List.set_cons_zero, List.set_cons_succ])); (refine wpAnyH_offG (i := 12) (by kernel_rfl) (by kernel_rfl) (by kernel_rfl) (fun _ _ _ _ _ h => h) hS ?_; intro oi hoi; simp only [List.getElem?_toArray, List.getElem?_cons_succ, List.getElem?_cons_zero] at hoi; cases hoi; refine ⟨by rfl, ?_⟩; (try simp only [Act.put, List.setIfInBounds_toArray, List.set_cons_zero, List.set_cons_succ])); (refine wpAnyH_offG (i := 13) (by kernel_rfl) (by kernel_rfl) (by kernel_rfl) (fun _ _ _ _ _ h => h) hS ?_; intro oi hoi; simp only [List.getElem?_toArray, List.getElem?_cons_succ, List.getElem?_cons_zero] at hoi; cases hoi; refine ⟨by rfl, ?_⟩; (try simp only [Act.put, List.setIfInBounds_toArray, List.set_cons_zero, List.set_cons_succ])); (refine wpAnyH_offG (i := 14) (by kernel_rfl) (by kernel_rfl) (by kernel_rfl) (fun _ _ _ _ _ h => h) hS ?_; intro oi hoi; simp only [List.getElem?_toArray, List.getElem?_cons_succ, List.getElem?_cons_zero] at hoi; cases hoi; refine ⟨by rfl, ?_⟩; (try simp only [Act.put, List.setIfInBounds_toArray, List.set_cons_zero, List.set_cons_succ])); (refine wpAnyH_offG (i := 15) (by kernel_rfl) (by kernel_rfl) (by kernel_rfl) (fun _ _ _ _ _ h => h) hS ?_; intro oi hoi; simp only [List.getElem?_toArray, List.getElem?_cons_succ, List.getElem?_cons_zero] at hoi; cases hoi; refine ⟨by rfl, ?_⟩; (try simp only [Act.put, List.setIfInBounds_toArray, List.set_cons_zero, List.set_cons_succ])); (refine wpAnyH_offG (i := 16) (by kernel_rfl) (by kernel_rfl) (by kernel_rfl) (fun _ _ _ _ _ h => h) hS ?_; intro oi hoi; simp only [List.getElem?_toArray, List.getElem?_cons_succ, List.getElem?_cons_zero] at hoi; cases hoi; refine ⟨by rfl, ?_⟩; (try simp only [Act.put, List.setIfInBounds_toArray, List.set_cons_zero, List.set_cons_succ])); (refine wpAnyH_offG (i := 17) (by kernel_rfl) (by kernel_rfl) (by kernel_rfl) (fun _ _ _ _ _ h => h) hS ?_; intro oi hoi; simp only [List.getElem?_toArray, List.getElem?_cons_succ, List.getElem?_cons_zero] at hoi; cases hoi; refine ⟨by rfl, ?_⟩; (try simp only [Act.put, List.setIfInBounds_toArray, List.set_cons_zero, List.set_cons_succ])); (refine wpAnyH_takeG (i := 18) (by kernel_rfl) (by kernel_rfl) (by kernel_rfl) (fun _ _ _ _ _ h => h) hS ?_; intro oi hoi; simp only [List.getElem?_toArray, List.getElem?_cons_succ, List.getElem?_cons_zero] at hoi; cases hoi; refine ⟨?_, by rfl, ?_, ?_⟩; rotate_left; (focus (intro wS hSw; skip; go_simp; (first | done | with_reducible rfl))); (try simp only [Act.put, List.setIfInBounds_toArray, List.set_cons_zero, List.set_cons_succ]))
     refine wpAnyH_done (by kernel_rfl) ?_ _
     refine NoPanic.normal ?_
     go_wp2_with fail
     go_ret
     exact ⟨by rw [HE.out]; rfl, HB2.out, HK.out.then_ (HK1.out.then_ HK2.out (fun _ h => h.elim)) (fun _ h => h.elim)⟩
   | true =>
    cases k with
    | zero =>
     have HE := Lib.hid (show vb = risB v o (some x) (l.drop 1) by rw [HVS.out]; rfl)
     clear hx he2
     have ez : ad.add (0 * 4) = ad := by rw [Nat.zero_mul]; exact Addr.add_zero' ad
     rw [ez] at e0 e1 e2 e3
     clear ez
     go_wp2_with fail
     rw [HW1.out]
     refine wp_region_noPanic ?_
     refine wp_region_held_drew (S := fun W => Kept W1 W (fun _ => False) ∧ Below w0.heap.size w0 W) (by kernel_rfl) ⟨(Kept.refl _ _).drew, below_drew HB1.out⟩ (fun hS => ?_)
     (refine wpAnyH_takeG (i := 0) (by kernel_rfl) (by kernel_rfl) (by kernel_rfl) (fun _ _ _ _ _ h => h) hS ?_; intro oi hoi; simp only [List.getElem?_toArray, List.getElem?_cons_succ, List.getElem?_cons_zero] at hoi; cases hoi; refine ⟨?_, by rfl, ?_, ?_⟩; rotate_left; (focus (intro wS hSw; skip; go_simp; (first | done | with_reducible rfl))); (try simp only [Act.put, List.setIfInBounds_toArray, List.set_cons_zero, List.set_cons_succ]))
     (refine wpAnyH_takeG (i := 1) (by kernel_rfl) (by kernel_rfl) (by kernel_rfl) (fun _ _ _ _ _ h => h) hS ?_; intro oi hoi; simp only [List.getElem?_toArray, List.getElem?_cons_succ, List.getElem?_cons_zero] at hoi; cases hoi; refine ⟨?_, by rfl, ?_, ?_⟩; rotate_left; (focus (intro wS hSw; have g0 := (blk_cell (blk_kept HG1.out hSw.1 id) 0).trans rfl; have g1 := (blk_cell (blk_kept HG1.out hSw.1 id) 1).trans rfl; have g2 := (blk_cell (blk_kept HG1.out hSw.1 id) 2).trans rfl; have g3 := (blk_cell (blk_kept HG1.out hSw.1 id) 3).trans rfl; go_simp; (first | done | with_reducible rfl))); (try simp only [Act.put, List.setIfInBounds_toArray, List.set_cons_zero, List.set_cons_succ]))
     (refine wpAnyH_oneG (i := 2) (by kernel_rfl) ?_; intro oi hoi K' hK; simp only [List.getElem?_toArray, List.getElem?_cons_succ, List.getElem?_cons_zero] at hoi; cases hoi; go_simp; refine (HVV.out _ hS.1 hS.2).mono ?_; rintro r w2 ⟨rfl, hB2, hK2⟩; have HB2 := Lib.hid hB2; have HK2 := Lib.hid (hS.1.then_ hK2 (fun _ h => h.elim)); clear hB2 hK2; go_wp2_with fail)
     (refine hK.out _ _ ?_ (fun hS => ?_); (focus (exact ⟨HK2.out, HB2.out⟩)); clear hK K'; (try simp only [Act.put, List.setIfInBounds_toArray, List.set_cons_zero, List.set_cons_succ]))
     (refine wpAnyH_takeG (i := 3) (by kernel_rfl) (by kernel_rfl) (by kernel_rfl) (fun _ _ _ _ _ h => h) hS ?_; intro oi hoi; simp only [List.getElem?_toArray, List.getElem?_cons_succ, List.getElem?_cons_zero] at hoi; cases hoi; refine ⟨?_, by rfl, ?_, ?_⟩; rotate_left; (focus (intro wS hSw; skip; go_simp; (first | done | with_reducible rfl))); (try simp only [Act.put, List.setIfInBounds_toArray, List.set_cons_zero, List.set_cons_succ])); (refine wpAnyH_takeG (i := 4) (by kernel_rfl) (by kernel_rfl) (by kernel_rfl) (fun _ _ _ _ _ h => h) hS ?_; intro oi hoi; simp only [List.getElem?_toArray, List.getElem?_cons_succ, List.getElem?_cons_zero] at hoi; cases hoi; refine ⟨?_, by rfl, ?_, ?_⟩; rotate_left; (focus (intro wS hSw; skip; go_simp; (first | done | with_reducible rfl))); (try simp only [Act.put, List.setIfInBounds_toArray, List.set_cons_zero, List.set_cons_succ])); (refine wpAnyH_takeG (i := 5) (by kernel_rfl) (by kernel_rfl) (by kernel_rfl) (fun _ _ _ _ _ h => h) hS ?_; intro oi hoi; simp only [List.getElem?_toArray, List.getElem?_cons_succ, List.getElem?_cons_zero] at hoi; cases hoi; refine ⟨?_, by rfl, ?_, ?_⟩; rotate_left; (focus (intro wS hSw; skip; go_simp; (first | done | with_reducible rfl))); (try simp only [Act.put, List.setIfInBounds_toArray, List.set_cons_zero, List.set_cons_succ])); (refine wpAnyH_takeG (i := 6) (by kernel_rfl) (by kernel_rfl) (by kernel_rfl) (fun _ _ _ _ _ h => h) hS ?_; intro oi hoi; simp only [List.getElem?_toArray, List.getElem?_cons_succ, List.getElem?_cons_zero] at hoi; cases hoi; refine ⟨?_, by rfl, ?_, ?_⟩; rotate_left; (focus (intro wS hSw; skip; go_simp; (first | done | with_reducible rfl))); (try simp only [Act.put, List.setIfInBounds_toArray, List.set_cons_zero, List.set_cons_succ])); (refine wpAnyH_takeG (i := 7) (by kernel_rfl) (by kernel_rfl) (by kernel_rfl) (fun _ _ _ _ _ h => h) hS ?_; intro oi hoi; simp only [List.getElem?_toArray, List.getElem?_cons_succ, List.getElem?_cons_zero] at hoi; cases hoi; refine ⟨?_, by rfl, ?_, ?_⟩; rotate_left; (focus (intro wS hSw; skip; go_simp; (first | done | with_reducible rfl))); (try simp only [Act.put, List.setIfInBounds_toArray, List.set_cons_zero, List.set_cons_succ])); (refine wpAnyH_offG (i := 8) (by kernel_rfl) (by kernel_rfl) (by kernel_rfl) (fun _ _ _ _ _ h => h) hS ?_; intro oi hoi; simp only [List.getElem?_toArray, List.getElem?_cons_succ, List.getElem?_cons_zero] at hoi; cases hoi; refine ⟨by rfl, ?_⟩; (try simp only [Act.put, List.setIfInBounds_toArray, List.set_cons_zero, List.set_cons_succ])); (refine wpAnyH_offG (i := 9) (by kernel_rfl) (by kernel_rfl) (by kernel_rfl) (fun _ _ _ _ _ h => h) hS ?_; intro oi hoi; simp only [List.getElem?_toArray, List.getElem?_cons_succ, List.getElem?_cons_zero] at hoi; cases hoi; refine ⟨by rfl, ?_⟩; (try simp only [Act.put, List.setIfInBounds_toArray, List.set_cons_zero, List.set_cons_succ])); (refine wpAnyH_offG (i := 10) (by kernel_rfl) (by kernel_rfl) (by kernel_rfl) (fun _ _ _ _ _ h => h) hS ?_; intro oi hoi; simp only [List.getElem?_toArray, List.getElem?_cons_succ, List.getElem?_cons_zero] at hoi; cases hoi; refine ⟨by rfl, ?_⟩; (try simp only [Act.put, List.setIfInBounds_toArray, List.set_cons_zero, List.set_cons_succ])); (refine wpAnyH_offG (i := 11) (by kernel_rfl) (by kernel_rfl) (by kernel_rfl) (fun _ _ _ _ _ h => h) hS ?_; intro oi hoi; simp only [List.getElem?_toArray, List.getElem?_cons_succ, List.getElem?_cons_zero] at hoi; cases hoi; refine ⟨by rfl, ?_⟩; (try simp only [Act.put, List.setIfInBounds_toArray, List.set_cons_zero, List.set_cons_succ])); (refine wpAnyH_offG (i := 12) (by kernel_rfl) (by kernel_rfl) (by kernel_rfl) (fun _ _ _ _ _ h => h) hS ?_; intro oi hoi; simp only [List.getElem?_toArray, List.getElem?_cons_succ, List.getElem?_cons_zero] at hoi; cases hoi; refine ⟨by rfl, ?_⟩; (try simp only [Act.put, List.setIfInBounds_toArray, List.set_cons_zero, List.set_cons_succ])); (refine wpAnyH_offG (i := 13) (by kernel_rfl) (by kernel_rfl) (by kernel_rfl) (fun _ _ _ _ _ h => h) hS ?_; intro oi hoi; simp only [List.getElem?_toArray, List.getElem?_cons_succ, List.getElem?_cons_zero] at hoi; cases hoi; refine ⟨by rfl, ?_⟩; (try simp only [Act.put, List.setIfInBounds_toArray, List.set_cons_zero, List.set_cons_succ])); (refine wpAnyH_offG (i := 14) (by kernel_rfl) (by kernel_rfl) (by kernel_rfl) (fun _ _ _ _ _ h => h) hS ?_; intro oi hoi; simp only [List.getElem?_toArray, List.getElem?_cons_succ, List.getElem?_cons_zero] at hoi; cases hoi; refine ⟨by rfl, ?_⟩; (try simp only [Act.put, List.setIfInBounds_toArray, List.set_cons_zero, List.set_cons_succ])); (refine wpAnyH_offG (i := 15) (by kernel_rfl) (by kernel_rfl) (by kernel_rfl) (fun _ _ _ _ _ h => h) hS ?_; intro oi hoi; simp only [List.getElem?_toArray, List.getElem?_cons_succ, List.getElem?_cons_zero] at hoi; cases hoi; refine ⟨by rfl, ?_⟩; (try simp only [Act.put, List.setIfInBounds_toArray, List.set_cons_zero, List.set_cons_succ])); (refine wpAnyH_offG (i := 16) (by kernel_rfl) (by kernel_rfl) (by kernel_rfl) (fun _ _ _ _ _ h => h) hS ?_; intro oi hoi; simp only [List.getElem?_toArray, List.getElem?_cons_succ, List.getElem?_cons_zero] at hoi; cases hoi; refine ⟨by rfl, ?_⟩; (try simp only [Act.put, List.setIfInBounds_toArray, List.set_cons_zero, List.set_cons_succ])); (refine wpAnyH_takeG (i := 17) (by kernel_rfl) (by kernel_rfl) (by kernel_rfl) (fun _ _ _ _ _ h => h) hS ?_; intro oi hoi; simp only [List.getElem?_toArray, List.getElem?_cons_succ, List.getElem?_cons_zero] at hoi; cases hoi; refine ⟨?_, by rfl, ?_, ?_⟩; rotate_left; (focus (intro wS hSw; skip; go_simp; (first | done | with_reducible rfl))); (try simp only [Act.put, List.setIfInBounds_toArray, List.set_cons_zero, List.set_cons_succ])); (refine wpAnyH_takeG (i := 18) (by kernel_rfl) (by kernel_rfl) (by kernel_rfl) (fun _ _ _ _ _ h => h) hS ?_; intro oi hoi; simp only [List.getElem?_toArray, List.getElem?_cons_succ, List.getElem?_cons_zero] at hoi; cases hoi; refine ⟨?_, by rfl, ?_, ?_⟩; rotate_left; (focus (intro wS hSw; skip; go_simp; (first | done | with_reducible rfl))); (try simp only [Act.put, List.setIfInBounds_toArray, List.set_cons_zero, List.set_cons_succ]))
     refine wpAnyH_done (by kernel_rfl) ?_ _
     refine NoPanic.normal ?_
     go_wp2_with fail
     go_roundg (l.length - 1)
     case measure => have := HM.out; omega
     case rel => exact ⟨1, by go_num, by omega, ⟨by omega⟩, ⟨by rw [HE.out]; show _ = risB v o (some (l.getD 0 z99)) _; rw [HXX.out]⟩, ⟨fun j hj => by obtain rfl : j = 0 := (by omega); rw [HXX.out]; exact HVX.out⟩, ⟨HK.out.then_ (HK1.out.then_ HK2.out (fun _ h => h.elim)) (fun _ h => h.elim)⟩, ⟨HB2.out⟩⟩
    | succ j =>
     obtain ⟨ad', hA, d0, d1, d2, d3⟩ := at_T99 HCr.out (j : Int) (by omega) (by omega)
     cases hA
     rw [show rd_T99 l (j : Int) = l.getD j z99 by simp [rd_T99]] at d0 d1 d2 d3
     simp only [Int.toNat_natCast] at d0 d1 d2 d3
     obtain ⟨y, hy⟩ : ∃ y, l.getD j z99 = y := ⟨_, rfl⟩
     have hvy := HAll.out j (by omega)
     rw [hy] at d0 d1 d2 d3 hvy
     have HVT := Lib.hid (show vb = (decide (o y x < 0) && risB v o (some x) (l.drop (j + 1 + 1))) by rw [HVS.out]; show (true && (decide (o (l.getD j z99) x < 0) && _)) = _; rw [hy]; rfl)
     have HF0 := Lib.hid (fun W (hk : Kept W1 W (fun _ => False)) => cell_kept d0 (HK1.out.then_ hk (fun _ h => h.elim)) id)
     have HF1 := Lib.hid (fun W (hk : Kept W1 W (fun _ => False)) => cell_kept d1 (HK1.out.then_ hk (fun _ h => h.elim)) id)
     have HF2 := Lib.hid (fun W (hk : Kept W1 W (fun _ => False)) => cell_kept d2 (HK1.out.then_ hk (fun _ h => h.elim)) id)
     have HF3 := Lib.hid (fun W (hk : Kept W1 W (fun _ => False)) => cell_kept d3 (HK1.out.then_ hk (fun _ h => h.elim)) id)
     have HOO := Lib.hid (fun W (hb : Below w0.heap.size w0 W) => HO0.out W y x hvy HVX.out hb)
     have hw1 : IntKind.i64.wrap (((j + 1 : Nat) : Int) - 1) = (j : Int) := by rw [IntKind.wrap_i64]; omega
     have hw2 : ((j + 1 : Nat) : Int) - 1 = (j : Int) := by omega
     have hw3 : IntKind.i64.wrap (j : Int) = (j : Int) := by rw [IntKind.wrap_i64]; omega
     have hjl : j < l.length := by omega
     have hj0 : 0 ≤ (j : Int) := by omega
     have hp : decide (0 < ((j + 1 : Nat) : Int)) = true := decide_eq_true (by omega)
     clear hx hy hvy d0 d1 d2 d3
     generalize o y x = oyx at HVT HOO
     by_cases hle : 0 ≤ oyx
     ·
      have d1 : decide (0 ≤ oyx) = true := decide_eq_true hle
      have HE := Lib.hid (show vb = false by rw [HVT.out, show decide (oyx < 0) = false from decide_eq_false (by omega)]; rfl)
      clear hle
      go_wp2_with fail
      rw [HW1.out]
      refine wp_region_noPanic ?_
      refine wp_region_held_drew (S := fun W => Kept W1 W (fun _ => False) ∧ Below w0.heap.size w0 W) (by kernel_rfl) ⟨(Kept.refl _ _).drew, below_drew HB1.out⟩ (fun hS => ?_)
      (refine wpAnyH_takeG (i := 0) (by kernel_rfl) (by kernel_rfl) (by kernel_rfl) (fun _ _ _ _ _ h => h) hS ?_; intro oi hoi; simp only [List.getElem?_toArray, List.getElem?_cons_succ, List.getElem?_cons_zero] at hoi; cases hoi; refine ⟨?_, by rfl, ?_, ?_⟩; rotate_left; (focus (intro wS hSw; skip; go_simp; (first | done | with_reducible rfl))); (try simp only [Act.put, List.setIfInBounds_toArray, List.set_cons_zero, List.set_cons_succ]))
      (refine wpAnyH_takeG (i := 1) (by kernel_rfl) (by kernel_rfl) (by kernel_rfl) (fun _ _ _ _ _ h => h) hS ?_; intro oi hoi; simp only [List.getElem?_toArray, List.getElem?_cons_succ, List.getElem?_cons_zero] at hoi; cases hoi; refine ⟨?_, by rfl, ?_, ?_⟩; rotate_left; (focus (intro wS hSw; have g0 := (blk_cell (blk_kept HG1.out hSw.1 id) 0).trans rfl; have g1 := (blk_cell (blk_kept HG1.out hSw.1 id) 1).trans rfl; have g2 := (blk_cell (blk_kept HG1.out hSw.1 id) 2).trans rfl; have g3 := (blk_cell (blk_kept HG1.out hSw.1 id) 3).trans rfl; go_simp; (first | done | with_reducible rfl))); (try simp only [Act.put, List.setIfInBounds_toArray, List.set_cons_zero, List.set_cons_succ]))
      (refine wpAnyH_oneG (i := 2) (by kernel_rfl) ?_; intro oi hoi K' hK; simp only [List.getElem?_toArray, List.getElem?_cons_succ, List.getElem?_cons_zero] at hoi; cases hoi; go_simp; refine (HVV.out _ hS.1 hS.2).mono ?_; rintro r w2 ⟨rfl, hB2, hK2⟩; have HB2 := Lib.hid hB2; have HK2 := Lib.hid (hS.1.then_ hK2 (fun _ h => h.elim)); clear hB2 hK2; go_wp2_with fail)
      (refine hK.out _ _ ?_ (fun hS => ?_); (focus (exact ⟨HK2.out, HB2.out⟩)); clear hK K'; (try simp only [Act.put, List.setIfInBounds_toArray, List.set_cons_zero, List.set_cons_succ]))
      (refine wpAnyH_takeG (i := 3) (by kernel_rfl) (by kernel_rfl) (by kernel_rfl) (fun _ _ _ _ _ h => h) hS ?_; intro oi hoi; simp only [List.getElem?_toArray, List.getElem?_cons_succ, List.getElem?_cons_zero] at hoi; cases hoi; refine ⟨?_, by rfl, ?_, ?_⟩; rotate_left; (focus (intro wS hSw; skip; go_simp; (first | done | with_reducible rfl))); (try simp only [Act.put, List.setIfInBounds_toArray, List.set_cons_zero, List.set_cons_succ])); (refine wpAnyH_takeG (i := 4) (by kernel_rfl) (by kernel_rfl) (by kernel_rfl) (fun _ _ _ _ _ h => h) hS ?_; intro oi hoi; simp only [List.getElem?_toArray, List.getElem?_cons_succ, List.getElem?_cons_zero] at hoi; cases hoi; refine ⟨?_, by rfl, ?_, ?_⟩; rotate_left; (focus (intro wS hSw; skip; go_simp; (first | done | with_reducible rfl))); (try simp only [Act.put, List.setIfInBounds_toArray, List.set_cons_zero, List.set_cons_succ])); (refine wpAnyH_takeG (i := 5) (by kernel_rfl) (by kernel_rfl) (by kernel_rfl) (fun _ _ _ _ _ h => h) hS ?_; intro oi hoi; simp only [List.getElem?_toArray, List.getElem?_cons_succ, List.getElem?_cons_zero] at hoi; cases hoi; refine ⟨?_, by rfl, ?_, ?_⟩; rotate_left; (focus (intro wS hSw; skip; go_simp; (first | done | with_reducible rfl))); (try simp only [Act.put, List.setIfInBounds_toArray, List.set_cons_zero, List.set_cons_succ])); (refine wpAnyH_takeG (i := 6) (by kernel_rfl) (by kernel_rfl) (by kernel_rfl) (fun _ _ _ _ _ h => h) hS ?_; intro oi hoi; simp only [List.getElem?_toArray, List.getElem?_cons_succ, List.getElem?_cons_zero] at hoi; cases hoi; refine ⟨?_, by rfl, ?_, ?_⟩; rotate_left; (focus (intro wS hSw; skip; go_simp; (first | done | with_reducible rfl))); (try simp only [Act.put, List.setIfInBounds_toArray, List.set_cons_zero, List.set_cons_succ])); (refine wpAnyH_takeG (i := 7) (by kernel_rfl) (by kernel_rfl) (by kernel_rfl) (fun _ _ _ _ _ h => h) hS ?_; intro oi hoi; simp only [List.getElem?_toArray, List.getElem?_cons_succ, List.getElem?_cons_zero] at hoi; cases hoi; refine ⟨?_, by rfl, ?_, ?_⟩; rotate_left; (focus (intro wS hSw; skip; go_simp; (first | done | with_reducible rfl))); (try simp only [Act.put, List.setIfInBounds_toArray, List.set_cons_zero, List.set_cons_succ])); (refine wpAnyH_takeG (i := 8) (by kernel_rfl) (by kernel_rfl) (by kernel_rfl) (fun _ _ _ _ _ h => h) hS ?_; intro oi hoi; simp only [List.getElem?_toArray, List.getElem?_cons_succ, List.getElem?_cons_zero] at hoi; cases hoi; refine ⟨?_, by rfl, ?_, ?_⟩; rotate_left; (focus (intro wS hSw; skip; go_simp; (first | done | with_reducible rfl))); (try simp only [Act.put, List.setIfInBounds_toArray, List.set_cons_zero, List.set_cons_succ])); (refine wpAnyH_takeG (i := 9) (by kernel_rfl) (by kernel_rfl) (by kernel_rfl) (fun _ _ _ _ _ h => h) hS ?_; intro oi hoi; simp only [List.getElem?_toArray, List.getElem?_cons_succ, List.getElem?_cons_zero] at hoi; cases hoi; refine ⟨?_, by rfl, ?_, ?_⟩; rotate_left; (focus (intro wS hSw; skip; go_simp; (first | done | with_reducible rfl))); (try simp only [Act.put, List.setIfInBounds_toArray, List.set_cons_zero, List.set_cons_succ])); (refine wpAnyH_takeG (i := 10) (by kernel_rfl) (by kernel_rfl) (by kernel_rfl) (fun _ _ _ _ _ h => h) hS ?_; intro oi hoi; simp only [List.getElem?_toArray, List.getElem?_cons_succ, List.getElem?_cons_zero] at hoi; cases hoi; refine ⟨?_, by rfl, ?_, ?_⟩; rotate_left; (focus (intro wS hSw; skip; go_simp; (first | done | with_reducible rfl))); (try simp only [Act.put, List.setIfInBounds_toArray, List.set_cons_zero, List.set_cons_succ])); (refine wpAnyH_takeG (i := 11) (by kernel_rfl) (by kernel_rfl) (by kernel_rfl) (fun _ _ _ _ _ h => h) hS ?_; intro oi hoi; simp only [List.getElem?_toArray, List.getElem?_cons_succ, List.getElem?_cons_zero] at hoi; cases hoi; refine ⟨?_, by rfl, ?_, ?_⟩; rotate_left; (focus (intro wS hSw; skip; go_simp; (first | done | with_reducible rfl))); (try simp only [Act.put, List.setIfInBounds_toArray, List.set_cons_zero, List.set_cons_succ])); (refine wpAnyH_takeG (i := 12) (by kernel_rfl) (by kernel_rfl) (by kernel_rfl) (fun _ _ _ _ _ h => h) hS ?_; intro oi hoi; simp only [List.getElem?_toArray, List.getElem?_cons_succ, List.getElem?_cons_zero] at hoi; cases hoi; refine ⟨?_, by rfl, ?_, ?_⟩; rotate_left; (focus (intro wS hSw; skip; go_simp; (first | done | with_reducible rfl))); (try simp only [Act.put, List.setIfInBounds_toArray, List.set_cons_zero, List.set_cons_succ]))
      (refine wpAnyH_takeG (i := 13) (by kernel_rfl) (by kernel_rfl) (by kernel_rfl) (fun _ _ _ _ _ h => h) hS ?_; intro oi hoi; simp only [List.getElem?_toArray, List.getElem?_cons_succ, List.getElem?_cons_zero] at hoi; cases hoi; refine ⟨?_, by rfl, ?_, ?_⟩; rotate_left; (focus (intro wS hSw; have p0 := HF0.out _ hSw.1; have p1 := HF1.out _ hSw.1; have p2 := HF2.out _ hSw.1; have p3 := HF3.out _ hSw.1; go_simp; (first | done | with_reducible rfl))); (try simp only [Act.put, List.setIfInBounds_toArray, List.set_cons_zero, List.set_cons_succ]))
      (refine wpAnyH_takeG (i := 14) (by kernel_rfl) (by kernel_rfl) (by kernel_rfl) (fun _ _ _ _ _ h => h) hS ?_; intro oi hoi; simp only [List.getElem?_toArray, List.getElem?_cons_succ, List.getElem?_cons_zero] at hoi; cases hoi; refine ⟨?_, by rfl, ?_, ?_⟩; rotate_left; (focus (intro wS hSw; have g0 := (blk_cell (blk_kept HG1.out hSw.1 id) 0).trans rfl; have g1 := (blk_cell (blk_kept HG1.out hSw.1 id) 1).trans rfl; have g2 := (blk_cell (blk_kept HG1.out hSw.1 id) 2).trans rfl; have g3 := (blk_cell (blk_kept HG1.out hSw.1 id) 3).trans rfl; go_simp; (first | done | with_reducible rfl))); (try simp only [Act.put, List.setIfInBounds_toArray, List.set_cons_zero, List.set_cons_succ]))
      (refine wpAnyH_oneG (i := 15) (by kernel_rfl) ?_; intro oi hoi K' hK; simp only [List.getElem?_toArray, List.getElem?_cons_succ, List.getElem?_cons_zero] at hoi; cases hoi; go_simp; refine (HOO.out _ hS.2).mono ?_; rintro r w3 ⟨rfl, hB3, hK3⟩; have HB3 := Lib.hid hB3; have HK3 := Lib.hid (hS.1.then_ hK3 (fun _ h => h.elim)); clear hB3 hK3; go_wp2_with fail)
      (refine hK.out _ _ ?_ (fun hS => ?_); (focus (exact ⟨HK3.out, HB3.out⟩)); clear hK K'; (try simp only [Act.put, List.setIfInBounds_toArray, List.set_cons_zero, List.set_cons_succ]))
      (refine wpAnyH_takeG (i := 16) (by kernel_rfl) (by kernel_rfl) (by kernel_rfl) (fun _ _ _ _ _ h => h) hS ?_; intro oi hoi; simp only [List.getElem?_toArray, List.getElem?_cons_succ, List.getElem?_cons_zero] at hoi; cases hoi; refine ⟨?_, by rfl, ?_, ?_⟩; rotate_left; (focus (intro wS hSw; skip; go_simp; (first | done | with_reducible rfl))); (try simp only [Act.put, List.setIfInBounds_toArray, List.set_cons_zero, List.set_cons_succ])); (refine wpAnyH_takeG (i := 17) (by kernel_rfl) (by kernel_rfl) (by kernel_rfl) (fun _ _ _ _ _ h => h) hS ?_; intro oi hoi; simp only [List.getElem?_toArray, List.getElem?_cons_succ, List.getElem?_cons_zero] at hoi; cases hoi; refine ⟨?_, by rfl, ?_, ?_⟩; rotate_left; (focus (intro wS hSw; skip; go_simp; (first | done | with_reducible rfl))); (try simp only [Act.put, List.setIfInBounds_toArray, List.set_cons_zero, List.set_cons_succ])); (refine wpAnyH_takeG (i := 18) (by kernel_rfl) (by kernel_rfl) (by kernel_rfl) (fun _ _ _ _ _ h => h) hS ?_; intro oi hoi; simp only [List.getElem?_toArray, List.getElem?_cons_succ, List.getElem?_cons_zero] at hoi; cases hoi; refine ⟨?_, by rfl, ?_, ?_⟩; rotate_left; (focus (intro wS hSw; skip; go_simp; (first | done | with_reducible rfl))); (try simp only [Act.put, List.setIfInBounds_toArray, List.set_cons_zero, List.set_cons_succ]))
      refine wpAnyH_done (by kernel_rfl) ?_ _
      refine NoPanic.normal ?_
      go_wp2_with fail
      go_ret
      exact ⟨by rw [HE.out]; rfl, HB3.out, HK.out.then_ (HK1.out.then_ HK3.out (fun _ h => h.elim)) (fun _ h => h.elim)⟩
     ·
      have d1 : decide (0 ≤ oyx) = false := decide_eq_false hle
      have HE := Lib.hid (show vb = risB v o (some x) (l.drop (j + 1 + 1)) by rw [HVT.out, show decide (oyx < 0) = true from decide_eq_true (by omega)]; rfl)
      clear hle
      go_wp2_with fail
      rw [HW1.out]
      refine wp_region_noPanic ?_
      refine wp_region_held_drew (S := fun W => Kept W1 W (fun _ => False) ∧ Below w0.heap.size w0 W) (by kernel_rfl) ⟨(Kept.refl _ _).drew, below_drew HB1.out⟩ (fun hS => ?_)
      (refine wpAnyH_takeG (i := 0) (by kernel_rfl) (by kernel_rfl) (by kernel_rfl) (fun _ _ _ _ _ h => h) hS ?_; intro oi hoi; simp only [List.getElem?_toArray, List.getElem?_cons_succ, List.getElem?_cons_zero] at hoi; cases hoi; refine ⟨?_, by rfl, ?_, ?_⟩; rotate_left; (focus (intro wS hSw; skip; go_simp; (first | done | with_reducible rfl))); (try simp only [Act.put, List.setIfInBounds_toArray, List.set_cons_zero, List.set_cons_succ]))
      (refine wpAnyH_takeG (i := 1) (by kernel_rfl) (by kernel_rfl) (by kernel_rfl) (fun _ _ _ _ _ h => h) hS ?_; intro oi hoi; simp only [List.getElem?_toArray, List.getElem?_cons_succ, List.getElem?_cons_zero] at hoi; cases hoi; refine ⟨?_, by rfl, ?_, ?_⟩; rotate_left; (focus (intro wS hSw; have g0 := (blk_cell (blk_kept HG1.out hSw.1 id) 0).trans rfl; have g1 := (blk_cell (blk_kept HG1.out hSw.1 id) 1).trans rfl; have g2 := (blk_cell (blk_kept HG1.out hSw.1 id) 2).trans rfl; have g3 := (blk_cell (blk_kept HG1.out hSw.1 id) 3).trans rfl; go_simp; (first | done | with_reducible rfl))); (try simp only [Act.put, List.setIfInBounds_toArray, List.set_cons_zero, List.set_cons_succ]))
      (refine wpAnyH_oneG (i := 2) (by kernel_rfl) ?_; intro oi hoi K' hK; simp only [List.getElem?_toArray, List.getElem?_cons_succ, List.getElem?_cons_zero] at hoi; cases hoi; go_simp; refine (HVV.out _ hS.1 hS.2).mono ?_; rintro r w2 ⟨rfl, hB2, hK2⟩; have HB2 := Lib.hid hB2; have HK2 := Lib.hid (hS.1.then_ hK2 (fun _ h => h.elim)); clear hB2 hK2; go_wp2_with fail)
      (refine hK.out _ _ ?_ (fun hS => ?_); (focus (exact ⟨HK2.out, HB2.out⟩)); clear hK K'; (try simp only [Act.put, List.setIfInBounds_toArray, List.set_cons_zero, List.set_cons_succ]))
      (refine wpAnyH_takeG (i := 3) (by kernel_rfl) (by kernel_rfl) (by kernel_rfl) (fun _ _ _ _ _ h => h) hS ?_; intro oi hoi; simp only [List.getElem?_toArray, List.getElem?_cons_succ, List.getElem?_cons_zero] at hoi; cases hoi; refine ⟨?_, by rfl, ?_, ?_⟩; rotate_left; (focus (intro wS hSw; skip; go_simp; (first | done | with_reducible rfl))); (try simp only [Act.put, List.setIfInBounds_toArray, List.set_cons_zero, List.set_cons_succ])); (refine wpAnyH_takeG (i := 4) (by kernel_rfl) (by kernel_rfl) (by kernel_rfl) (fun _ _ _ _ _ h => h) hS ?_; intro oi hoi; simp only [List.getElem?_toArray, List.getElem?_cons_succ, List.getElem?_cons_zero] at hoi; cases hoi; refine ⟨?_, by rfl, ?_, ?_⟩; rotate_left; (focus (intro wS hSw; skip; go_simp; (first | done | with_reducible rfl))); (try simp only [Act.put, List.setIfInBounds_toArray, List.set_cons_zero, List.set_cons_succ])); (refine wpAnyH_takeG (i := 5) (by kernel_rfl) (by kernel_rfl) (by kernel_rfl) (fun _ _ _ _ _ h => h) hS ?_; intro oi hoi; simp only [List.getElem?_toArray, List.getElem?_cons_succ, List.getElem?_cons_zero] at hoi; cases hoi; refine ⟨?_, by rfl, ?_, ?_⟩; rotate_left; (focus (intro wS hSw; skip; go_simp; (first | done | with_reducible rfl))); (try simp only [Act.put, List.setIfInBounds_toArray, List.set_cons_zero, List.set_cons_succ])); (refine wpAnyH_takeG (i := 6) (by kernel_rfl) (by kernel_rfl) (by kernel_rfl) (fun _ _ _ _ _ h => h) hS ?_; intro oi hoi; simp only [List.getElem?_toArray, List.getElem?_cons_succ, List.getElem?_cons_zero] at hoi; cases hoi; refine ⟨?_, by rfl, ?_, ?_⟩; rotate_left; (focus (intro wS hSw; skip; go_simp; (first | done | with_reducible rfl))); (try simp only [Act.put, List.setIfInBounds_toArray, List.set_cons_zero, List.set_cons_succ])); (refine wpAnyH_takeG (i := 7) (by kernel_rfl) (by kernel_rfl) (by kernel_rfl) (fun _ _ _ _ _ h => h) hS ?_; intro oi hoi; simp only [List.getElem?_toArray, List.getElem?_cons_succ, List.getElem?_cons_zero] at hoi; cases hoi; refine ⟨?_, by rfl, ?_, ?_⟩; rotate_left; (focus (intro wS hSw; skip; go_simp; (first | done | with_reducible rfl))); (try simp only [Act.put, List.setIfInBounds_toArray, List.set_cons_zero, List.set_cons_succ])); (refine wpAnyH_takeG (i := 8) (by kernel_rfl) (by kernel_rfl) (by kernel_rfl) (fun _ _ _ _ _ h => h) hS ?_; intro oi hoi; simp only [List.getElem?_toArray, List.getElem?_cons_succ, List.getElem?_cons_zero] at hoi; cases hoi; refine ⟨?_, by rfl, ?_, ?_⟩; rotate_left; (focus (intro wS hSw; skip; go_simp; (first | done | with_reducible rfl))); (try simp only [Act.put, List.setIfInBounds_toArray, List.set_cons_zero, List.set_cons_succ])); (refine wpAnyH_takeG (i := 9) (by kernel_rfl) (by kernel_rfl) (by kernel_rfl) (fun _ _ _ _ _ h => h) hS ?_; intro oi hoi; simp only [List.getElem?_toArray, List.getElem?_cons_succ, List.getElem?_cons_zero] at hoi; cases hoi; refine ⟨?_, by rfl, ?_, ?_⟩; rotate_left; (focus (intro wS hSw; skip; go_simp; (first | done | with_reducible rfl))); (try simp only [Act.put, List.setIfInBounds_toArray, List.set_cons_zero, List.set_cons_succ])); (refine wpAnyH_takeG (i := 10) (by kernel_rfl) (by kernel_rfl) (by kernel_rfl) (fun _ _ _ _ _ h => h) hS ?_; intro oi hoi; simp only [List.getElem?_toArray, List.getElem?_cons_succ, List.getElem?_cons_zero] at hoi; cases hoi; refine ⟨?_, by rfl, ?_, ?_⟩; rotate_left; (focus (intro wS hSw; skip; go_simp; (first | done | with_reducible rfl))); (try simp only [Act.put, List.setIfInBounds_toArray, List.set_cons_zero, List.set_cons_succ])); (refine wpAnyH_takeG (i := 11) (by kernel_rfl) (by kernel_rfl) (by kernel_rfl) (fun _ _ _ _ _ h => h) hS ?_; intro oi hoi; simp only [List.getElem?_toArray, List.getElem?_cons_succ, List.getElem?_cons_zero] at hoi; cases hoi; refine ⟨?_, by rfl, ?_, ?_⟩; rotate_left; (focus (intro wS hSw; skip; go_simp; (first | done | with_reducible rfl))); (try simp only [Act.put, List.setIfInBounds_toArray, List.set_cons_zero, List.set_cons_succ])); (refine wpAnyH_takeG (i := 12) (by kernel_rfl) (by kernel_rfl) (by kernel_rfl) (fun _ _ _ _ _ h => h) hS ?_; intro oi hoi; simp only [List.getElem?_toArray, List.getElem?_cons_succ, List.getElem?_cons_zero] at hoi; cases hoi; refine ⟨?_, by rfl, ?_, ?_⟩; rotate_left; (focus (intro wS hSw; skip; go_simp; (first | done | with_reducible rfl))); (try simp only [Act.put, List.setIfInBounds_toArray, List.set_cons_zero, List.set_cons_succ]))
      (refine wpAnyH_takeG (i := 13) (by kernel_rfl) (by kernel_rfl) (by kernel_rfl) (fun _ _ _ _ _ h => h) hS ?_; intro oi hoi; simp only [List.getElem?_toArray, List.getElem?_cons_succ, List.getElem?_cons_zero] at hoi; cases hoi; refine ⟨?_, by rfl, ?_, ?_⟩; rotate_left; (focus (intro wS hSw; have p0 := HF0.out _ hSw.1; have p1 := HF1.out _ hSw.1; have p2 := HF2.out _ hSw.1; have p3 := HF3.out _ hSw.1; go_simp; (first | done | with_reducible rfl))); (try simp only [Act.put, List.setIfInBounds_toArray, List.set_cons_zero, List.set_cons_succ]))
      (refine wpAnyH_takeG (i := 14) (by kernel_rfl) (by kernel_rfl) (by kernel_rfl) (fun _ _ _ _ _ h => h) hS ?_; intro oi hoi; simp only [List.getElem?_toArray, List.getElem?_cons_succ, List.getElem?_cons_zero] at hoi; cases hoi; refine ⟨?_, by rfl, ?_, ?_⟩; rotate_left; (focus (intro wS hSw; have g0 := (blk_cell (blk_kept HG1.out hSw.1 id) 0).trans rfl; have g1 := (blk_cell (blk_kept HG1.out hSw.1 id) 1).trans rfl; have g2 := (blk_cell (blk_kept HG1.out hSw.1 id) 2).trans rfl; have g3 := (blk_cell (blk_kept HG1.out hSw.1 id) 3).trans rfl; go_simp; (first | done | with_reducible rfl))); (try simp only [Act.put, List.setIfInBounds_toArray, List.set_cons_zero, List.set_cons_succ]))
      (refine wpAnyH_oneG (i := 15) (by kernel_rfl) ?_; intro oi hoi K' hK; simp only [List.getElem?_toArray, List.getElem?_cons_succ, List.getElem?_cons_zero] at hoi; cases hoi; go_simp; refine (HOO.out _ hS.2).mono ?_; rintro r w3 ⟨rfl, hB3, hK3⟩; have HB3 := Lib.hid hB3; have HK3 := Lib.hid (hS.1.then_ hK3 (fun _ h => h.elim)); clear hB3 hK3; go_wp2_with fail)
      (refine hK.out _ _ ?_ (fun hS => ?_); (focus (exact ⟨HK3.out, HB3.out⟩)); clear hK K'; (try simp only [Act.put, List.setIfInBounds_toArray, List.set_cons_zero, List.set_cons_succ]))
      (refine wpAnyH_takeG (i := 16) (by kernel_rfl) (by kernel_rfl) (by kernel_rfl) (fun _ _ _ _ _ h => h) hS ?_; intro oi hoi; simp only [List.getElem?_toArray, List.getElem?_cons_succ, List.getElem?_cons_zero] at hoi; cases hoi; refine ⟨?_, by rfl, ?_, ?_⟩; rotate_left; (focus (intro wS hSw; skip; go_simp; (first | done | with_reducible rfl))); (try simp only [Act.put, List.setIfInBounds_toArray, List.set_cons_zero, List.set_cons_succ])); (refine wpAnyH_takeG (i := 17) (by kernel_rfl) (by kernel_rfl) (by kernel_rfl) (fun _ _ _ _ _ h => h) hS ?_; intro oi hoi; simp only [List.getElem?_toArray, List.getElem?_cons_succ, List.getElem?_cons_zero] at hoi; cases hoi; refine ⟨?_, by rfl, ?_, ?_⟩; rotate_left; (focus (intro wS hSw; skip; go_simp; (first | done | with_reducible rfl))); (try simp only [Act.put, List.setIfInBounds_toArray, List.set_cons_zero, List.set_cons_succ])); (refine wpAnyH_takeG (i := 18) (by kernel_rfl) (by kernel_rfl) (by kernel_rfl) (fun _ _ _ _ _ h => h) hS ?_; intro oi hoi; simp only [List.getElem?_toArray, List.getElem?_cons_succ, List.getElem?_cons_zero] at hoi; cases hoi; refine ⟨?_, by rfl, ?_, ?_⟩; rotate_left; (focus (intro wS hSw; skip; go_simp; (first | done | with_reducible rfl))); (try simp only [Act.put, List.setIfInBounds_toArray, List.set_cons_zero, List.set_cons_succ]))
      refine wpAnyH_done (by kernel_rfl) ?_ _
      refine NoPanic.normal ?_
      go_wp2_with fail
      go_roundg (l.length - (j + 1 + 1))
      case measure => have := HM.out; omega
      case rel => exact ⟨j + 1 + 1, by go_num, by omega, ⟨by omega⟩, ⟨by rw [HE.out]; show _ = risB v o (some (l.getD (j + 1) z99)) _; rw [HXX.out]⟩, ⟨fun i hi => Nat.lt_succ_iff_lt_or_eq.1 hi |>.elim (fun h => HAll.out i h) (fun h => by rw [h, HXX.out]; exact HVX.out)⟩, ⟨HK.out.then_ (HK1.out.then_ HK3.out (fun _ h => h.elim)) (fun _ h => h.elim)⟩, ⟨HB3.out⟩⟩
  ·
   have q1 : decide ((k : Int) < (l.length : Int)) = false := decide_eq_false (by omega)
   have HE := Lib.hid (show vb = true by rw [HV.out, List.drop_eq_nil_of_le (by omega)]; cases prevOf z99 l k <;> rfl)
   go_wp2_with fail
   go_ret
   exact ⟨by rw [HE.out]; rfl, HBr.out, HK.out⟩
end Go.Proofs.Ytenhigpeafaidaa.Q
-- Sa
namespace Go.Proofs.Ytenhigpeafaidaa.Wire
open Go.RowKit Go.Proofs.YtenhigpeafaidaaW.PrintWords Go.Proofs.YtenhigpeafaidaaW.PrintLast Go.Proofs.YtenhigpeafaidaaW.PrintMore
set_option linter.unusedVariables false
set_option linter.unusedSimpArgs false

/-! Sets of numbers below 512 as eight words of 64 bits. -/
/-- The number whose bits below n are those of f. -/
def wd (f : Nat → Bool) : Nat → Nat
 | 0 => 0
 | n + 1 => wd f n ||| (if f n = true then 2 ^ n else 0)
theorem wd_bit (f : Nat → Bool) : ∀ (n i : Nat), (wd f n).testBit i = (decide (i < n) && f i)
 | 0, i => by simp [wd]
 | n + 1, i => by
  unfold wd
  rw [Nat.testBit_or, wd_bit f n i]
  by_cases h : i = n
  ·
   subst h
   cases hf : f i <;> simp [hf, Nat.testBit_two_pow]
  ·
   by_cases h2 : i < n
   ·
    have h3 : i < n + 1 := by omega
    cases hf : f n <;> simp [h2, h3, Nat.testBit_two_pow, Ne.symm h]
   ·
    have h3 : ¬ i < n + 1 := by omega
    cases hf : f n <;> simp [h2, h3, Nat.testBit_two_pow, Ne.symm h]
theorem wd_lt (f : Nat → Bool) (n : Nat) : wd f n < 2 ^ n := by
 apply Nat.lt_pow_two_of_testBit
 intro i hi
 rw [wd_bit, decide_eq_false (by omega)]; rfl
theorem wd_ext {f g : Nat → Bool} {n : Nat} (h : ∀ i, i < n → f i = g i) : wd f n = wd g n := by
 apply Nat.eq_of_testBit_eq
 intro i
 rw [wd_bit, wd_bit]
 by_cases hi : i < n
 ·
  rw [h i hi]
 ·
  rw [decide_eq_false hi]; rfl
/-- Word k of a set. -/
def wdS (S : Nat → Bool) (k : Nat) : Int := ((wd (fun b => S (64 * k + b)) 64 : Nat) : Int)
def noS : Nat → Bool := fun _ => false
theorem wdS_no (k : Nat) : wdS noS k = 0 := by
 unfold wdS noS
 have : wd (fun _ => false) 64 = 0 := by
  apply Nat.eq_of_testBit_eq
  intro i
  rw [wd_bit]; simp
 rw [this]; rfl
theorem wdS_range (S : Nat → Bool) (k : Nat) : 0 ≤ wdS S k ∧ wdS S k < 18446744073709551616 := by
 unfold wdS
 have := wd_lt (fun b => S (64 * k + b)) 64
 have e : (2 : Nat) ^ 64 = 18446744073709551616 := by decide
 omega
theorem wdS_ext {S T : Nat → Bool} (h : ∀ i, i < 512 → S i = T i) (k : Nat) (hk : k < 8) : wdS S k = wdS T k := by
 unfold wdS
 rw [wd_ext (fun i hi => h (64 * k + i) (by omega))]
def orS (S T : Nat → Bool) : Nat → Bool := fun i => S i || T i
def oneS (n : Nat) : Nat → Bool := fun i => i == n
theorem u64b {S : Nat → Bool} {k : Nat} : wd (fun b => S (64 * k + b)) 64 < 18446744073709551616 := by
 have := wd_lt (fun b => S (64 * k + b)) 64
 have e : (2 : Nat) ^ 64 = 18446744073709551616 := by decide
 omega
theorem wdS_or (S T : Nat → Bool) (k : Nat) : Go.bits .or .u64 (wdS S k) (wdS T k) = wdS (orS S T) k := by
 unfold wdS
 rw [u64_or_nat _ _ u64b u64b]
 congr 1
 apply Nat.eq_of_testBit_eq
 intro i
 rw [Nat.testBit_or, wd_bit, wd_bit, wd_bit]
 unfold orS
 cases decide (i < 64) <;> rfl
/-- A word with one bit more. -/
theorem wdS_put (S : Nat → Bool) (n : Nat) : Go.bits .or .u64 (wdS S (n / 64)) (2 ^ (n % 64)) = wdS (orS S (oneS n)) (n / 64) := by
 have h1 : wdS (oneS n) (n / 64) = 2 ^ (n % 64) := by
  unfold wdS
  have : wd (fun b => oneS n (64 * (n / 64) + b)) 64 = 2 ^ (n % 64) := by
   apply Nat.eq_of_testBit_eq
   intro i
   rw [wd_bit, Nat.testBit_two_pow]
   unfold oneS
   rw [Bool.eq_iff_iff]
   simp
   omega
  rw [this]; simp
 rw [← h1, wdS_or]
theorem wdS_put_ne (S : Nat → Bool) (n k : Nat) (h : k ≠ n / 64) : wdS (orS S (oneS n)) k = wdS S k := by
 unfold wdS
 congr 1
 apply wd_ext
 intro i hi
 unfold orS oneS
 have : (64 * k + i == n) = false := by rw [beq_eq_false_iff_ne]; omega
 rw [this, Bool.or_false]
/-- One bit of a word. -/
theorem wdS_has (S : Nat → Bool) (n : Nat) : wdS S (n / 64) / 2 ^ (n % 64) % 2 = if S n = true then 1 else 0 := by
 unfold wdS
 have hb := wd_bit (fun b => S (64 * (n / 64) + b)) 64 (n % 64)
 rw [decide_eq_true (by omega), Bool.true_and, show 64 * (n / 64) + n % 64 = n by omega] at hb
 rw [Nat.testBit_eq_decide_div_mod_eq] at hb
 have e : ((wd (fun b => S (64 * (n / 64) + b)) 64 : Nat) : Int) / 2 ^ (n % 64) % 2 = ((wd (fun b => S (64 * (n / 64) + b)) 64 / 2 ^ (n % 64) % 2 : Nat) : Int) := by
  rw [Int.natCast_emod, Int.natCast_ediv, Int.natCast_pow]; rfl
 rw [e]
 cases hs : S n with
 | true => rw [hs] at hb; rw [if_pos rfl]; simp at hb; omega
 | false => rw [hs] at hb; rw [if_neg (by decide)]; simp at hb; omega
end Go.Proofs.Ytenhigpeafaidaa.Wire
-- Sb
namespace Go.Proofs.Ytenhigpeafaidaa.Wire
open Go.RowKit Go.Proofs.YtenhigpeafaidaaW.PrintWords Go.Proofs.YtenhigpeafaidaaW.PrintLast Go.Proofs.YtenhigpeafaidaaW.PrintMore
set_option linter.unusedVariables false
set_option linter.unusedSimpArgs false

def inS (i : Int) : Bool := decide (0 ≤ i) && decide (i < 512)
theorem setAllowed_calls (w : World) (i : Int) : Calls Try.prog 75 #[.int .i64 i] w (fun r w' => r = .returned (.bool (inS i)) ∧ w = w') := by
 by_cases q0 : 0 ≤ i
 ·
  have d0 : decide (0 ≤ i) = true := decide_eq_true q0
  have HR := Lib.hid (show inS i = decide (i < 512) by unfold inS; rw [d0]; rfl)
  clear q0
  go_enter Try.func75, Try.ntmps75
  go_wp2_with fail
  go_ret
  exact ⟨by rw [HR.out]; rfl, rfl⟩
 ·
  have d0 : decide (0 ≤ i) = false := decide_eq_false q0
  have HR := Lib.hid (show inS i = false by unfold inS; rw [d0]; rfl)
  clear q0
  go_enter Try.func75, Try.ntmps75
  go_wp2_with fail
  go_ret
  exact ⟨by rw [HR.out]; rfl, rfl⟩

/-- A set's block. -/
def SetAt (w : World) (g : Nat) (S : Nat → Bool) : Prop := w.heap[g]? = some (.cells #[.int .u64 (wdS (S) 0), .int .u64 (wdS (S) 1), .int .u64 (wdS (S) 2), .int .u64 (wdS (S) 3), .int .u64 (wdS (S) 4), .int .u64 (wdS (S) 5), .int .u64 (wdS (S) 6), .int .u64 (wdS (S) 7)] 92 (0, 0))
theorem SetAt.get {w : World} {g : Nat} {S : Nat → Bool} (h : SetAt w g S) (k : Nat) (hk : k < 8) : w.cell? ⟨g, k, none⟩ = some (.int .u64 (wdS S k)) ∧ w.frozen? ⟨g, k, none⟩ = false := by
 unfold SetAt at h
 refine ⟨?_, blk_frozen h _⟩
 rw [blk_cell h]
 obtain rfl | rfl | rfl | rfl | rfl | rfl | rfl | rfl : k = 0 ∨ k = 1 ∨ k = 2 ∨ k = 3 ∨ k = 4 ∨ k = 5 ∨ k = 6 ∨ k = 7 := by omega
 all_goals rfl
theorem SetAt.put {w : World} {g : Nat} {S T : Nat → Bool} (h : SetAt w g S) (k : Nat) (hk : k < 8) (hne : ∀ j, j ≠ k → wdS T j = wdS S j) : SetAt (w.setCell ⟨g, k, none⟩ (.int .u64 (wdS T k))) g T := by
 unfold SetAt at h ⊢
 rw [blk_set h]
 obtain rfl | rfl | rfl | rfl | rfl | rfl | rfl | rfl : k = 0 ∨ k = 1 ∨ k = 2 ∨ k = 3 ∨ k = 4 ∨ k = 5 ∨ k = 6 ∨ k = 7 := by omega
 all_goals (simp [hne])
theorem setA_ext {S T : Nat → Bool} (h : ∀ i, i < 512 → S i = T i) : (#[.int .u64 (wdS (S) 0), .int .u64 (wdS (S) 1), .int .u64 (wdS (S) 2), .int .u64 (wdS (S) 3), .int .u64 (wdS (S) 4), .int .u64 (wdS (S) 5), .int .u64 (wdS (S) 6), .int .u64 (wdS (S) 7)] : Array Value) = #[.int .u64 (wdS (T) 0), .int .u64 (wdS (T) 1), .int .u64 (wdS (T) 2), .int .u64 (wdS (T) 3), .int .u64 (wdS (T) 4), .int .u64 (wdS (T) 5), .int .u64 (wdS (T) 6), .int .u64 (wdS (T) 7)] := by
 rw [wdS_ext h 0 (by decide), wdS_ext h 1 (by decide), wdS_ext h 2 (by decide), wdS_ext h 3 (by decide), wdS_ext h 4 (by decide), wdS_ext h 5 (by decide), wdS_ext h 6 (by decide), wdS_ext h 7 (by decide)]
theorem SetAt.ext {w : World} {g : Nat} {S T : Nat → Bool} (h : SetAt w g S) (he : ∀ i, i < 512 → S i = T i) : SetAt w g T := by
 unfold SetAt at h ⊢
 rw [← setA_ext he]; exact h
theorem setA_no : (#[.int .u64 (wdS (noS) 0), .int .u64 (wdS (noS) 1), .int .u64 (wdS (noS) 2), .int .u64 (wdS (noS) 3), .int .u64 (wdS (noS) 4), .int .u64 (wdS (noS) 5), .int .u64 (wdS (noS) 6), .int .u64 (wdS (noS) 7)] : Array Value) = #[.int .u64 0, .int .u64 0, .int .u64 0, .int .u64 0, .int .u64 0, .int .u64 0, .int .u64 0, .int .u64 0] := by simp only [wdS_no]
/-- Eight words stored one by one. -/
theorem put8 {w : World} {g t : Nat} {x0 x1 x2 x3 x4 x5 x6 x7 : Value} (h : w.heap[g]? = some (.cells #[x0, x1, x2, x3, x4, x5, x6, x7] t (0, 0))) (a0 a1 a2 a3 a4 a5 a6 a7 : Int) : ((((((((w.setCell ⟨g, 0, none⟩ (.int .u64 a0)).setCell ⟨g, 1, none⟩ (.int .u64 a1)).setCell ⟨g, 2, none⟩ (.int .u64 a2)).setCell ⟨g, 3, none⟩ (.int .u64 a3)).setCell ⟨g, 4, none⟩ (.int .u64 a4)).setCell ⟨g, 5, none⟩ (.int .u64 a5)).setCell ⟨g, 6, none⟩ (.int .u64 a6)).setCell ⟨g, 7, none⟩ (.int .u64 a7)).heap[g]? = some (.cells #[.int .u64 a0, .int .u64 a1, .int .u64 a2, .int .u64 a3, .int .u64 a4, .int .u64 a5, .int .u64 a6, .int .u64 a7] t (0, 0)) := by
 have := (blk_set (blk_set (blk_set (blk_set (blk_set (blk_set (blk_set (blk_set h 0 (.int .u64 a0)) 1 (.int .u64 a1)) 2 (.int .u64 a2)) 3 (.int .u64 a3)) 4 (.int .u64 a4)) 5 (.int .u64 a5)) 6 (.int .u64 a6)) 7 (.int .u64 a7))
 simpa using this
theorem kept8 {w W : World} {S : Nat → Prop} {g : Nat} (h : Kept W w S) (hg : S g ∨ W.heap.size ≤ g) (a0 a1 a2 a3 a4 a5 a6 a7 : Int) : Kept W ((((((((w.setCell ⟨g, 0, none⟩ (.int .u64 a0)).setCell ⟨g, 1, none⟩ (.int .u64 a1)).setCell ⟨g, 2, none⟩ (.int .u64 a2)).setCell ⟨g, 3, none⟩ (.int .u64 a3)).setCell ⟨g, 4, none⟩ (.int .u64 a4)).setCell ⟨g, 5, none⟩ (.int .u64 a5)).setCell ⟨g, 6, none⟩ (.int .u64 a6)).setCell ⟨g, 7, none⟩ (.int .u64 a7)) S := (Kept.setCell (Kept.setCell (Kept.setCell (Kept.setCell (Kept.setCell (Kept.setCell (Kept.setCell (Kept.setCell h (p := ⟨g, 0, none⟩) hg (.int .u64 a0)) (p := ⟨g, 1, none⟩) hg (.int .u64 a1)) (p := ⟨g, 2, none⟩) hg (.int .u64 a2)) (p := ⟨g, 3, none⟩) hg (.int .u64 a3)) (p := ⟨g, 4, none⟩) hg (.int .u64 a4)) (p := ⟨g, 5, none⟩) hg (.int .u64 a5)) (p := ⟨g, 6, none⟩) hg (.int .u64 a6)) (p := ⟨g, 7, none⟩) hg (.int .u64 a7))
theorem below8 {w W : World} {g : Nat} (h : Below W.heap.size W w) (hg : W.heap.size ≤ g) (a0 a1 a2 a3 a4 a5 a6 a7 : Int) : Below W.heap.size W ((((((((w.setCell ⟨g, 0, none⟩ (.int .u64 a0)).setCell ⟨g, 1, none⟩ (.int .u64 a1)).setCell ⟨g, 2, none⟩ (.int .u64 a2)).setCell ⟨g, 3, none⟩ (.int .u64 a3)).setCell ⟨g, 4, none⟩ (.int .u64 a4)).setCell ⟨g, 5, none⟩ (.int .u64 a5)).setCell ⟨g, 6, none⟩ (.int .u64 a6)).setCell ⟨g, 7, none⟩ (.int .u64 a7)) := (Below.setCell (Below.setCell (Below.setCell (Below.setCell (Below.setCell (Below.setCell (Below.setCell (Below.setCell h (p := ⟨g, 0, none⟩) hg (.int .u64 a0)) (p := ⟨g, 1, none⟩) hg (.int .u64 a1)) (p := ⟨g, 2, none⟩) hg (.int .u64 a2)) (p := ⟨g, 3, none⟩) hg (.int .u64 a3)) (p := ⟨g, 4, none⟩) hg (.int .u64 a4)) (p := ⟨g, 5, none⟩) hg (.int .u64 a5)) (p := ⟨g, 6, none⟩) hg (.int .u64 a6)) (p := ⟨g, 7, none⟩) hg (.int .u64 a7))
theorem shl_one (n : Nat) : (Op.shift .shl .u64 1 .i64 ((n % 64 : Nat) : Int) : Sem Value) = pure (.int .u64 (2 ^ (n % 64))) := by
 rw [show ((n % 64 : Nat) : Int) = ((n % 64 : Nat) : Int) from rfl]
 have hm : min (((n % 64 : Nat) : Int)).toNat IntKind.u64.bits = n % 64 := by
  rw [Int.toNat_natCast]; have : IntKind.u64.bits = 64 := rfl
  rw [this]; omega
 rw [shift_shl_any _ _ _ _ (by omega), hm, Int.one_mul, IntKind.wrap_u64]
 have h1 : (2 : Nat) ^ (n % 64) < 2 ^ 64 := Nat.pow_lt_pow_right (by decide) (by omega)
 have h2 : (2 : Nat) ^ 64 = 18446744073709551616 := by decide
 rw [h2] at h1
 have h3 : ((2 ^ (n % 64) : Nat) : Int) = 2 ^ (n % 64) := by rw [Int.natCast_pow]; rfl
 rw [← h3]
 generalize 2 ^ (n % 64) = z at h1
 rw [Int.emod_eq_of_lt (by omega) (by omega)]

/-- The numbers of a list as a set. -/
def listS (l : List Int) : Nat → Bool := fun i => l.contains (i : Int)
theorem listS_snoc (l : List Int) (n : Nat) : ∀ i, listS (l ++ [(n : Int)]) i = orS (listS l) (oneS n) i := fun i => by
 unfold listS orS oneS
 rw [Bool.eq_iff_iff]
 simp only [List.contains_iff_mem, List.mem_append, List.mem_singleton, Bool.or_eq_true, beq_iff_eq]
 constructor
 ·
  rintro (h | h)
  ·
   exact .inl h
  ·
   exact .inr (by omega)
 ·
  rintro (h | h)
  ·
   exact .inl h
  ·
   exact .inr (by omega)
def OfSetPost (w0 w : World) (l : List Int) (r : Ending) (w' : World) : Prop :=
 (l.all inS = true ∧ r = .returned (.tuple #[.agg #[.int .u64 (wdS (listS l) 0), .int .u64 (wdS (listS l) 1), .int .u64 (wdS (listS l) 2), .int .u64 (wdS (listS l) 3), .int .u64 (wdS (listS l) 4), .int .u64 (wdS (listS l) 5), .int .u64 (wdS (listS l) 6), .int .u64 (wdS (listS l) 7)], .int .i64 0]) ∧ Below w0.heap.size w0 w' ∧ Kept w w' (fun _ => False)) ∨ (l.all inS = false ∧ r = .returned (.tuple #[.agg #[.int .u64 0, .int .u64 0, .int .u64 0, .int .u64 0, .int .u64 0, .int .u64 0, .int .u64 0, .int .u64 0], .int .i64 2]) ∧ Below w0.heap.size w0 w' ∧ Kept w w' (fun _ => False))
theorem all_falseI {p : Int → Bool} {l : List Int} {k : Nat} (h : k < l.length) (hp : p (l.getD k 0) = false) : l.all p = false := by
 rw [List.all_eq_false]
 have e : l.getD k 0 = l[k] := by simp [List.getD, h]
 exact ⟨l.getD k 0, by rw [e]; exact List.getElem_mem h, by rw [hp]; simp⟩

set_option maxHeartbeats 8000000 in
set_option maxRecDepth 100000 in
theorem setOf_calls (w0 w : World) (l : List Int) (A : Option Addr) (c : Nat) (hB : Below w0.heap.size w0 w) (hC : (Kd.int .i64).C w A l.length l) (hl : l.length ≤ 100000000) :
  Calls Try.prog 78 #[.slice A l.length c] w (OfSetPost w0 w l) := by
 have HC := Lib.hid hC
 have HSZ := Lib.hid hB.size
 obtain ⟨W1, hW1⟩ : ∃ W1, W1 = (w.alloc (.cells #[.int .u64 0, .int .u64 0, .int .u64 0, .int .u64 0, .int .u64 0, .int .u64 0, .int .u64 0, .int .u64 0] 92)).alloc (.cells #[.int .u64 0, .int .u64 0, .int .u64 0, .int .u64 0, .int .u64 0, .int .u64 0, .int .u64 0, .int .u64 0] 92) := ⟨_, rfl⟩
 have HB1 := Lib.hid (show Below w0.heap.size w0 W1 by rw [hW1]; exact below_alloc' (below_alloc' hB _) _)
 have HK1 := Lib.hid (show Kept w W1 (fun _ => False) by rw [hW1]; exact ((Kept.refl w (fun _ => False)).alloc _).alloc _)
 have HR := Lib.hid (show W1.heap[w.heap.size]? = some (.cells #[.int .u64 0, .int .u64 0, .int .u64 0, .int .u64 0, .int .u64 0, .int .u64 0, .int .u64 0, .int .u64 0] 92 (0, 0)) by rw [hW1]; exact blk_alloc (blk_new _ _) _)
 have HG := Lib.hid (show SetAt W1 (w.heap.size + 1) (listS []) by
  unfold SetAt
  rw [setA_ext (T := noS) (fun i _ => by simp [listS, noS]), setA_no, hW1]
  have := blk_new (w.alloc (.cells #[.int .u64 0, .int .u64 0, .int .u64 0, .int .u64 0, .int .u64 0, .int .u64 0, .int .u64 0, .int .u64 0] 92)) (.cells #[.int .u64 0, .int .u64 0, .int .u64 0, .int .u64 0, .int .u64 0, .int .u64 0, .int .u64 0, .int .u64 0] 92); simpa using this)
 have HWW := Lib.hid (show (w.alloc (.cells #[.int .u64 0, .int .u64 0, .int .u64 0, .int .u64 0, .int .u64 0, .int .u64 0, .int .u64 0, .int .u64 0] 92)).alloc (.cells #[.int .u64 0, .int .u64 0, .int .u64 0, .int .u64 0, .int .u64 0, .int .u64 0, .int .u64 0, .int .u64 0] 92) = W1 from hW1.symm)
 have HWS := Lib.hid (show W1.heap.size = w.heap.size + 2 by rw [hW1]; simp)
 clear hB hC hW1
 go_enter Try.func78, Try.ntmps78
 go_wp2_with fail
 rw [HWW.out]
 go_loopg [9] l.length (fun g v9 w' => ∃ k : Nat, v9 = .int .i64 k ∧ k ≤ l.length ∧ Aside0 (g + k = l.length) ∧ Aside0 ((l.take k).all inS = true) ∧ Aside0 (SetAt w' (w.heap.size + 1) (listS (l.take k))) ∧ Aside0 (Below w0.heap.size w0 w') ∧ Aside0 (Kept W1 w' (fun k => k = w.heap.size + 1)))
 case atStart => exact ⟨0, rfl, Nat.zero_le _, ⟨rfl⟩, ⟨rfl⟩, ⟨HG.out⟩, ⟨HB1.out⟩, ⟨Kept.refl _ _⟩⟩
 case round =>
  obtain ⟨k, rfl, hk, HM, HA, HS, HB, HK⟩ := hrel
  have HKw := Lib.hid (HK1.out.then_ HK.out (fun k hk => .inr (by omega)))
  have HRr := Lib.hid (blk_kept HR.out HK.out (fun h => by have h9 : w.heap.size = w.heap.size + 1 := h; omega))
  by_cases h : k < l.length
  ·
   have q1 : decide ((k : Int) < (l.length : Int)) = true := decide_eq_true (by omega)
   obtain ⟨ad, hA, hcell⟩ := C_at (C_none HC.out HKw.out) k h
   subst hA
   have HAF := Lib.hid (fun hp => all_falseI (p := inS) h hp)
   have HTK := Lib.hid (show l.take (k + 1) = l.take k ++ [l.getD k 0] by rw [List.take_add_one, List.getElem?_eq_getElem h]; simp [List.getD, h])
   generalize l.getD k 0 = x at hcell HAF HTK
   have HAL := Lib.hid (setAllowed_calls wr x)
   cases hx : inS x with
   | false =>
    have HRR := Lib.hid (HAF.out hx)
    rw [hx] at HAL
    clear hx HAF
    (have ez : ∀ j, j < 8 → wr.cell? ⟨w.heap.size, j, none⟩ = some (.int .u64 0) ∧ wr.frozen? ⟨w.heap.size, j, none⟩ = false := fun j hj => ⟨(by rw [blk_cell HRr.out]; obtain rfl | rfl | rfl | rfl | rfl | rfl | rfl | rfl : j = 0 ∨ j = 1 ∨ j = 2 ∨ j = 3 ∨ j = 4 ∨ j = 5 ∨ j = 6 ∨ j = 7 := (by omega); all_goals rfl), blk_frozen HRr.out _⟩); obtain ⟨ez0, ef0⟩ := ez 0 (by decide); obtain ⟨ez1, ef1⟩ := ez 1 (by decide); obtain ⟨ez2, ef2⟩ := ez 2 (by decide); obtain ⟨ez3, ef3⟩ := ez 3 (by decide); obtain ⟨ez4, ef4⟩ := ez 4 (by decide); obtain ⟨ez5, ef5⟩ := ez 5 (by decide); obtain ⟨ez6, ef6⟩ := ez 6 (by decide); obtain ⟨ez7, ef7⟩ := ez 7 (by decide); clear ez
    go_wp2_with fail
    refine HAL.out.mono ?_
    rintro r w2 ⟨rfl, rfl⟩
    go_wp2_with fail
    refine bodyPost_ret (v := .tuple #[.agg #[.int .u64 0, .int .u64 0, .int .u64 0, .int .u64 0, .int .u64 0, .int .u64 0, .int .u64 0, .int .u64 0], .int .i64 2]) (results_ct Try.results78 _ _ w.heap.size _ _ _ _ rfl (put8 HRr.out 0 0 0 0 0 0 0 0) Try.underlying92 rfl (by kernel_rfl)) rfl (.inr ⟨HRR.out, rfl, below8 HB.out HSZ.out _ _ _ _ _ _ _ _, kept8 HKw.out (.inr (Nat.le_refl _)) _ _ _ _ _ _ _ _⟩)
   | true =>
    rw [hx] at HAL
    have hx2 : 0 ≤ x ∧ x < 512 := by unfold inS at hx; simpa using hx
    clear hx HAF
    obtain ⟨n, rfl⟩ : ∃ n : Nat, x = (n : Int) := ⟨x.toNat, by omega⟩
    go_wp2_with fail
    refine HAL.out.mono ?_
    rintro r w2 ⟨rfl, rfl⟩
    have hq : IntKind.i64.wrap ((n : Int) / 64) = (n : Int) / 64 := by rw [IntKind.wrap_i64]; omega
    have hr : IntKind.i64.wrap ((n : Int) % 64) = (n : Int) % 64 := by rw [IntKind.wrap_i64]; omega
    have hq1 : (n : Int) / 64 < 8 := by omega
    have hq0 : 0 ≤ (n : Int) / 64 := by omega
    have hqT : ((n : Int) / 64).toNat = n / 64 := by omega
    have hq2 : n / 64 < 8 := by omega
    have hsh : (Op.shift .shl .u64 1 .i64 (Int.tmod (n : Int) 64) : Sem Value) = pure (.int .u64 (2 ^ (n % 64))) := by rw [Int.tmod_eq_emod_of_nonneg (by omega)]; exact shl_one n
    have HGt := Lib.hid (HS.out.get (n / 64) hq2)
    have HP := Lib.hid (wdS_put (listS (l.take k)) n)
    go_wp2_with fail
    refine wp_region_noPanic ?_
    refine wp_region_last_drew (ds := [11]) (S := fun W => W.cell? ⟨w.heap.size + 1, n / 64, none⟩ = some (.int .u64 (wdS (listS (l.take k)) (n / 64)))) (by kernel_rfl) HGt.out.1 (fun hS => ?_)
    (refine lastTakeG (i := 0) (by kernel_rfl) (by kernel_rfl) (by kernel_rfl) (by kernel_rfl) (by kernel_rfl) (fun _ _ _ _ _ h => h) hS ?_; intro oi hoi; simp only [List.getElem?_toArray, List.getElem?_cons_succ, List.getElem?_cons_zero] at hoi; cases hoi; refine ⟨?_, by rfl, ?_, ?_⟩; rotate_left; (focus (intro wS hSw; skip; go_simp; (first | done | with_reducible rfl))); (try simp only [Act.put, List.setIfInBounds_toArray, List.set_cons_zero, List.set_cons_succ]))
    (refine lastTakeG (i := 1) (by kernel_rfl) (by kernel_rfl) (by kernel_rfl) (by kernel_rfl) (by kernel_rfl) (fun _ _ _ _ _ h => h) hS ?_; intro oi hoi; simp only [List.getElem?_toArray, List.getElem?_cons_succ, List.getElem?_cons_zero] at hoi; cases hoi; refine ⟨?_, by rfl, ?_, ?_⟩; rotate_left; (focus (intro wS hSw; skip; go_simp; (first | done | with_reducible rfl))); (try simp only [Act.put, List.setIfInBounds_toArray, List.set_cons_zero, List.set_cons_succ]))
    (refine lastTakeG (i := 2) (by kernel_rfl) (by kernel_rfl) (by kernel_rfl) (by kernel_rfl) (by kernel_rfl) (fun _ _ _ _ _ h => h) hS ?_; intro oi hoi; simp only [List.getElem?_toArray, List.getElem?_cons_succ, List.getElem?_cons_zero] at hoi; cases hoi; refine ⟨?_, by rfl, ?_, ?_⟩; rotate_left; (focus (intro wS hSw; skip; go_simp; (first | done | with_reducible rfl))); (try simp only [Act.put, List.setIfInBounds_toArray, List.set_cons_zero, List.set_cons_succ]))
    (refine lastTakeG (i := 3) (by kernel_rfl) (by kernel_rfl) (by kernel_rfl) (by kernel_rfl) (by kernel_rfl) (fun _ _ _ _ _ h => h) hS ?_; intro oi hoi; simp only [List.getElem?_toArray, List.getElem?_cons_succ, List.getElem?_cons_zero] at hoi; cases hoi; refine ⟨?_, by rfl, ?_, ?_⟩; rotate_left; (focus (intro wS hSw; skip; go_simp; (first | done | with_reducible rfl))); (try simp only [Act.put, List.setIfInBounds_toArray, List.set_cons_zero, List.set_cons_succ]))
    (refine lastTakeG (i := 4) (by kernel_rfl) (by kernel_rfl) (by kernel_rfl) (by kernel_rfl) (by kernel_rfl) (fun _ _ _ _ _ h => h) hS ?_; intro oi hoi; simp only [List.getElem?_toArray, List.getElem?_cons_succ, List.getElem?_cons_zero] at hoi; cases hoi; refine ⟨?_, by rfl, ?_, ?_⟩; rotate_left; (focus (intro wS hSw; have g0 := hSw; go_simp; (first | done | with_reducible rfl))); (try simp only [Act.put, List.setIfInBounds_toArray, List.set_cons_zero, List.set_cons_succ]))
    (refine lastTakeG (i := 5) (by kernel_rfl) (by kernel_rfl) (by kernel_rfl) (by kernel_rfl) (by kernel_rfl) (fun _ _ _ _ _ h => h) hS ?_; intro oi hoi; simp only [List.getElem?_toArray, List.getElem?_cons_succ, List.getElem?_cons_zero] at hoi; cases hoi; refine ⟨?_, by rfl, ?_, ?_⟩; rotate_left; (focus (intro wS hSw; skip; go_simp; (first | done | with_reducible rfl))); (try simp only [Act.put, List.setIfInBounds_toArray, List.set_cons_zero, List.set_cons_succ]))
    (refine lastTakeG (i := 6) (by kernel_rfl) (by kernel_rfl) (by kernel_rfl) (by kernel_rfl) (by kernel_rfl) (fun _ _ _ _ _ h => h) hS ?_; intro oi hoi; simp only [List.getElem?_toArray, List.getElem?_cons_succ, List.getElem?_cons_zero] at hoi; cases hoi; refine ⟨?_, by rfl, ?_, ?_⟩; rotate_left; (focus (intro wS hSw; skip; go_simp; (first | done | with_reducible rfl))); (try simp only [Act.put, List.setIfInBounds_toArray, List.set_cons_zero, List.set_cons_succ]))
    (refine lastTakeG (i := 7) (by kernel_rfl) (by kernel_rfl) (by kernel_rfl) (by kernel_rfl) (by kernel_rfl) (fun _ _ _ _ _ h => h) hS ?_; intro oi hoi; simp only [List.getElem?_toArray, List.getElem?_cons_succ, List.getElem?_cons_zero] at hoi; cases hoi; refine ⟨?_, by rfl, ?_, ?_⟩; rotate_left; (focus (intro wS hSw; skip; go_simp; (first | done | with_reducible rfl))); (try simp only [Act.put, List.setIfInBounds_toArray, List.set_cons_zero, List.set_cons_succ]))
    (refine lastTakeG (i := 8) (by kernel_rfl) (by kernel_rfl) (by kernel_rfl) (by kernel_rfl) (by kernel_rfl) (fun _ _ _ _ _ h => h) hS ?_; intro oi hoi; simp only [List.getElem?_toArray, List.getElem?_cons_succ, List.getElem?_cons_zero] at hoi; cases hoi; refine ⟨?_, by rfl, ?_, ?_⟩; rotate_left; (focus (intro wS hSw; skip; go_simp; (first | done | with_reducible rfl))); (try simp only [Act.put, List.setIfInBounds_toArray, List.set_cons_zero, List.set_cons_succ]))
    (refine lastTakeG (i := 9) (by kernel_rfl) (by kernel_rfl) (by kernel_rfl) (by kernel_rfl) (by kernel_rfl) (fun _ _ _ _ _ h => h) hS ?_; intro oi hoi; simp only [List.getElem?_toArray, List.getElem?_cons_succ, List.getElem?_cons_zero] at hoi; cases hoi; refine ⟨?_, by rfl, ?_, ?_⟩; rotate_left; (focus (intro wS hSw; skip; go_simp; (first | done | with_reducible rfl))); (try simp only [Act.put, List.setIfInBounds_toArray, List.set_cons_zero, List.set_cons_succ]))
    (refine lastTakeG (i := 10) (by kernel_rfl) (by kernel_rfl) (by kernel_rfl) (by kernel_rfl) (by kernel_rfl) (fun _ _ _ _ _ h => h) hS ?_; intro oi hoi; simp only [List.getElem?_toArray, List.getElem?_cons_succ, List.getElem?_cons_zero] at hoi; cases hoi; refine ⟨?_, by rfl, ?_, ?_⟩; rotate_left; (focus (intro wS hSw; skip; go_simp; (first | done | with_reducible rfl))); (try simp only [Act.put, List.setIfInBounds_toArray, List.set_cons_zero, List.set_cons_succ]))
    (refine lastLastG (i := 11) (by kernel_rfl) (by decide) ?_; intro oi hoi K' hK; simp only [List.getElem?_toArray, List.getElem?_cons_succ, List.getElem?_cons_zero] at hoi; cases hoi)
    have hg1 := HGt.out.1
    have hg2 := HGt.out.2
    have hp := HP.out
    have HPT := Lib.hid (HS.out.put (T := orS (listS (l.take k)) (oneS n)) (n / 64) hq2 (fun j hj => wdS_put_ne _ _ _ hj))
    have HSn := Lib.hid (SetAt.ext (T := listS (l.take (k + 1))) HPT.out (fun i _ => by rw [HTK.out, listS_snoc]))
    go_simp
    (refine hK.out _ _ ?_; clear hK K'; (try simp only [Act.put, List.setIfInBounds_toArray, List.set_cons_zero, List.set_cons_succ]))
    refine wpAnyLast_done (by kernel_rfl) ?_ _
    refine NoPanic.normal ?_
    have HAn := Lib.hid (show (l.take (k + 1)).all inS = true by rw [HTK.out, List.all_append, HA.out]; simp [inS]; omega)
    clear hp hsh hq hr hq1 hq0 hqT hg1 hg2
    go_wp2_with fail
    go_roundg (l.length - (k + 1))
    case measure => have := HM.out; omega
    case rel => exact ⟨k + 1, by go_num, by omega, ⟨by omega⟩, ⟨HAn.out⟩, ⟨blk_drew HSn.out⟩, ⟨below_drew (HB.out.setCell (by have := HSZ.out; simp; omega) _)⟩, ⟨(HK.out.setCell (.inl rfl) _).drew⟩⟩
  ·
   have q1 : decide ((k : Int) < (l.length : Int)) = false := decide_eq_false (by omega)
   have etk : l.take k = l := List.take_of_length_le (by omega)
   have hsl := HS.out
   have hal := HA.out
   rw [etk] at hsl hal
   have HSL := Lib.hid hsl
   have HAL := Lib.hid hal
   obtain ⟨h0, _⟩ := hsl.get 0 (by decide); obtain ⟨h1, _⟩ := hsl.get 1 (by decide); obtain ⟨h2, _⟩ := hsl.get 2 (by decide); obtain ⟨h3, _⟩ := hsl.get 3 (by decide)
   obtain ⟨h4, _⟩ := hsl.get 4 (by decide); obtain ⟨h5, _⟩ := hsl.get 5 (by decide); obtain ⟨h6, _⟩ := hsl.get 6 (by decide); obtain ⟨h7, _⟩ := hsl.get 7 (by decide)
   (have ez : ∀ j, j < 8 → wr.cell? ⟨w.heap.size, j, none⟩ = some (.int .u64 0) ∧ wr.frozen? ⟨w.heap.size, j, none⟩ = false := fun j hj => ⟨(by rw [blk_cell HRr.out]; obtain rfl | rfl | rfl | rfl | rfl | rfl | rfl | rfl : j = 0 ∨ j = 1 ∨ j = 2 ∨ j = 3 ∨ j = 4 ∨ j = 5 ∨ j = 6 ∨ j = 7 := (by omega); all_goals rfl), blk_frozen HRr.out _⟩); obtain ⟨ez0, ef0⟩ := ez 0 (by decide); obtain ⟨ez1, ef1⟩ := ez 1 (by decide); obtain ⟨ez2, ef2⟩ := ez 2 (by decide); obtain ⟨ez3, ef3⟩ := ez 3 (by decide); obtain ⟨ez4, ef4⟩ := ez 4 (by decide); obtain ⟨ez5, ef5⟩ := ez 5 (by decide); obtain ⟨ez6, ef6⟩ := ez 6 (by decide); obtain ⟨ez7, ef7⟩ := ez 7 (by decide); clear ez
   clear hsl hal etk HS HA
   go_wp2_with fail
   refine bodyPost_ret (v := .tuple #[.agg #[.int .u64 (wdS (listS l) 0), .int .u64 (wdS (listS l) 1), .int .u64 (wdS (listS l) 2), .int .u64 (wdS (listS l) 3), .int .u64 (wdS (listS l) 4), .int .u64 (wdS (listS l) 5), .int .u64 (wdS (listS l) 6), .int .u64 (wdS (listS l) 7)], .int .i64 0]) (results_ct Try.results78 _ _ w.heap.size _ _ _ _ rfl (put8 HRr.out _ _ _ _ _ _ _ _) Try.underlying92 rfl (by kernel_rfl)) rfl (.inl ⟨HAL.out, rfl, below8 HB.out HSZ.out _ _ _ _ _ _ _ _, kept8 HKw.out (.inr (Nat.le_refl _)) _ _ _ _ _ _ _ _⟩)
end Go.Proofs.Ytenhigpeafaidaa.Wire
-- Sc
namespace Go.Proofs.Ytenhigpeafaidaa.Wire
open Go.RowKit Go.Proofs.YtenhigpeafaidaaW.PrintWords Go.Proofs.YtenhigpeafaidaaW.PrintLast Go.Proofs.YtenhigpeafaidaaW.PrintMore
set_option linter.unusedVariables false
set_option linter.unusedSimpArgs false

theorem results_cell {P : Program} {fn : Func} {p : Tmp} {ty : TypeId} (h : fn.results = #[.cell p ty]) (tmps : Array Value) (w : World) (g : Nat) (t : TypeId) (cs : Array Value) (fr : Nat × Nat) (d : TypeDesc)
  (hp : tmps.getD p undef = .pointer (some ⟨g, 0, none⟩)) (hg : w.heap[g]? = some (.cells cs t fr))
  (hu : P.underlying ty = some d) (hd : (match d with | .struct _ | .array _ _ => true | _ => false) = true) (hi : (P.info? ty).map (·.size) = some cs.size) :
  (results fn tmps).run P w = .ok (.agg cs) w := by
 have hp' : tmps[p]?.getD undef = .pointer (some ⟨g, 0, none⟩) := by simpa using hp
 simp [results, h, hp', asAddr, run_loadVar_row w g t ty cs fr d hg hu hd hi]
theorem shr_word (S : Nat → Bool) (n : Nat) : (Op.shift .shr .u64 (wdS S (n / 64)) .i64 ((n % 64 : Nat) : Int) : Sem Value) = pure (.int .u64 (wdS S (n / 64) / 2 ^ (n % 64))) := by
 have hm : min (((n % 64 : Nat) : Int)).toNat IntKind.u64.bits = n % 64 := by
  rw [Int.toNat_natCast]; have : IntKind.u64.bits = 64 := rfl
  rw [this]; omega
 have hr := wdS_range S (n / 64)
 rw [shift_shr_any _ _ _ _ (by omega), hm]
theorem bit_word (S : Nat → Bool) (n : Nat) : Go.bits .and .u64 (wdS S (n / 64) / 2 ^ (n % 64)) 1 = if S n = true then 1 else 0 := by
 have hr := wdS_range S (n / 64)
 have hp : (0 : Int) < 2 ^ (n % 64) := Int.pow_pos (by decide)
 have h1 : 0 ≤ wdS S (n / 64) / 2 ^ (n % 64) := Int.ediv_nonneg hr.1 (Int.le_of_lt hp)
 have h2 : wdS S (n / 64) / 2 ^ (n % 64) ≤ wdS S (n / 64) := Int.ediv_le_self _ hr.1
 rw [and_one _ h1 (by omega), wdS_has]
def hasB (S : Nat → Bool) (i : Int) : Bool := inS i && S i.toNat

set_option maxHeartbeats 4000000 in
set_option maxRecDepth 100000 in
theorem setHas_calls (w0 w : World) (S : Nat → Bool) (i : Int) (hB : Below w0.heap.size w0 w) :
  Calls Try.prog 43 #[.agg #[.int .u64 (wdS (S) 0), .int .u64 (wdS (S) 1), .int .u64 (wdS (S) 2), .int .u64 (wdS (S) 3), .int .u64 (wdS (S) 4), .int .u64 (wdS (S) 5), .int .u64 (wdS (S) 6), .int .u64 (wdS (S) 7)], .int .i64 i] w (fun r w' => r = .returned (.bool (hasB S i)) ∧ Below w0.heap.size w0 w' ∧ Kept w w' (fun _ => False)) := by
 have HB := Lib.hid (below_alloc' hB (.cells #[.int .u64 (wdS (S) 0), .int .u64 (wdS (S) 1), .int .u64 (wdS (S) 2), .int .u64 (wdS (S) 3), .int .u64 (wdS (S) 4), .int .u64 (wdS (S) 5), .int .u64 (wdS (S) 6), .int .u64 (wdS (S) 7)] 92))
 have HK := Lib.hid ((Kept.refl w (fun _ => False)).alloc (.cells #[.int .u64 (wdS (S) 0), .int .u64 (wdS (S) 1), .int .u64 (wdS (S) 2), .int .u64 (wdS (S) 3), .int .u64 (wdS (S) 4), .int .u64 (wdS (S) 5), .int .u64 (wdS (S) 6), .int .u64 (wdS (S) 7)] 92))
 have HS := Lib.hid (show SetAt (w.alloc (.cells #[.int .u64 (wdS (S) 0), .int .u64 (wdS (S) 1), .int .u64 (wdS (S) 2), .int .u64 (wdS (S) 3), .int .u64 (wdS (S) 4), .int .u64 (wdS (S) 5), .int .u64 (wdS (S) 6), .int .u64 (wdS (S) 7)] 92)) w.heap.size S from blk_new _ _)
 have HA := Lib.hid (fun W => setAllowed_calls W i)
 clear hB
 cases hi : inS i with
 | false =>
  have HR := Lib.hid (show hasB S i = false by unfold hasB; rw [hi]; rfl)
  rw [hi] at HA
  clear hi
  go_enter Try.func43, Try.ntmps43
  go_wp2_with fail
  refine (HA.out _).mono ?_
  rintro r w2 ⟨rfl, rfl⟩
  go_wp2_with fail
  go_ret
  exact ⟨by rw [HR.out]; rfl, HB.out, HK.out⟩
 | true =>
  have hx2 : 0 ≤ i ∧ i < 512 := by unfold inS at hi; simpa using hi
  have HR := Lib.hid (show hasB S i = S i.toNat by unfold hasB; rw [hi]; rfl)
  rw [hi] at HA
  clear hi
  obtain ⟨n, rfl⟩ : ∃ n : Nat, i = (n : Int) := ⟨i.toNat, by omega⟩
  have hq : IntKind.i64.wrap ((n : Int) / 64) = (n : Int) / 64 := by rw [IntKind.wrap_i64]; omega
  have hq1 : (n : Int) / 64 < 8 := by omega
  have hq0 : 0 ≤ (n : Int) / 64 := by omega
  have hqT : ((n : Int) / 64).toNat = n / 64 := by omega
  have hq2 : n / 64 < 8 := by omega
  obtain ⟨hg, _⟩ := HS.out.get (n / 64) hq2
  have hsh : (Op.shift .shr .u64 (wdS S (n / 64)) .i64 (Int.tmod (n : Int) 64) : Sem Value) = pure (.int .u64 (wdS S (n / 64) / 2 ^ (n % 64))) := by rw [Int.tmod_eq_emod_of_nonneg (by omega)]; exact shr_word S n
  have hbw := bit_word S n
  have HRR := Lib.hid (show hasB S (n : Int) = S n by rw [HR.out, Int.toNat_natCast])
  clear HR
  cases hs : S n with
  | false =>
   rw [hs] at hbw HRR
   rw [if_neg (by decide)] at hbw
   clear hs
   go_enter Try.func43, Try.ntmps43
   go_wp2_with fail
   refine (HA.out _).mono ?_
   rintro r w2 ⟨rfl, rfl⟩
   go_wp2_with fail
   go_ret
   exact ⟨by rw [HRR.out]; rfl, HB.out, HK.out⟩
  | true =>
   rw [hs] at hbw HRR
   rw [if_pos rfl] at hbw
   clear hs
   go_enter Try.func43, Try.ntmps43
   go_wp2_with fail
   refine (HA.out _).mono ?_
   rintro r w2 ⟨rfl, rfl⟩
   go_wp2_with fail
   go_ret
   exact ⟨by rw [HRR.out]; rfl, HB.out, HK.out⟩
theorem idx8_0 (W : World) (a0 a1 a2 a3 a4 a5 a6 a7 : Value) : (Instr.index 90 (.agg #[a0, a1, a2, a3, a4, a5, a6, a7]) (.int .i64 0)).run Try.prog W = .ok a0 W := by kernel_rfl
theorem idx8_1 (W : World) (a0 a1 a2 a3 a4 a5 a6 a7 : Value) : (Instr.index 90 (.agg #[a0, a1, a2, a3, a4, a5, a6, a7]) (.int .i64 1)).run Try.prog W = .ok a1 W := by kernel_rfl
theorem idx8_2 (W : World) (a0 a1 a2 a3 a4 a5 a6 a7 : Value) : (Instr.index 90 (.agg #[a0, a1, a2, a3, a4, a5, a6, a7]) (.int .i64 2)).run Try.prog W = .ok a2 W := by kernel_rfl
theorem idx8_3 (W : World) (a0 a1 a2 a3 a4 a5 a6 a7 : Value) : (Instr.index 90 (.agg #[a0, a1, a2, a3, a4, a5, a6, a7]) (.int .i64 3)).run Try.prog W = .ok a3 W := by kernel_rfl
theorem idx8_4 (W : World) (a0 a1 a2 a3 a4 a5 a6 a7 : Value) : (Instr.index 90 (.agg #[a0, a1, a2, a3, a4, a5, a6, a7]) (.int .i64 4)).run Try.prog W = .ok a4 W := by kernel_rfl
theorem idx8_5 (W : World) (a0 a1 a2 a3 a4 a5 a6 a7 : Value) : (Instr.index 90 (.agg #[a0, a1, a2, a3, a4, a5, a6, a7]) (.int .i64 5)).run Try.prog W = .ok a5 W := by kernel_rfl
theorem idx8_6 (W : World) (a0 a1 a2 a3 a4 a5 a6 a7 : Value) : (Instr.index 90 (.agg #[a0, a1, a2, a3, a4, a5, a6, a7]) (.int .i64 6)).run Try.prog W = .ok a6 W := by kernel_rfl
theorem idx8_7 (W : World) (a0 a1 a2 a3 a4 a5 a6 a7 : Value) : (Instr.index 90 (.agg #[a0, a1, a2, a3, a4, a5, a6, a7]) (.int .i64 7)).run Try.prog W = .ok a7 W := by kernel_rfl

/-- The first k words joined, the others as they were. -/
def mixS (S U : Nat → Bool) (k : Nat) : Nat → Bool := fun i => if i < 64 * k then U i else S i
theorem mix_lt (S U : Nat → Bool) (k : Nat) : wdS (mixS S U (k + 1)) k = wdS U k := by
 unfold wdS mixS
 congr 1
 apply wd_ext
 intro i hi
 rw [if_pos (by omega)]
theorem mix_ne (S U : Nat → Bool) (k j : Nat) (h : j ≠ k) : wdS (mixS S U (k + 1)) j = wdS (mixS S U k) j := by
 unfold wdS mixS
 congr 1
 apply wd_ext
 intro i hi
 by_cases q : 64 * j + i < 64 * k
 ·
  rw [if_pos q, if_pos (by omega)]
 ·
  rw [if_neg q, if_neg (by omega)]
theorem mix_at (S U : Nat → Bool) (k : Nat) : wdS (mixS S U k) k = wdS S k := by
 unfold wdS mixS
 congr 1
 apply wd_ext
 intro i hi
 rw [if_neg (by omega)]
def SetPost (w0 w : World) (S : Nat → Bool) (r : Ending) (w' : World) : Prop := r = .returned (.agg #[.int .u64 (wdS (S) 0), .int .u64 (wdS (S) 1), .int .u64 (wdS (S) 2), .int .u64 (wdS (S) 3), .int .u64 (wdS (S) 4), .int .u64 (wdS (S) 5), .int .u64 (wdS (S) 6), .int .u64 (wdS (S) 7)]) ∧ Below w0.heap.size w0 w' ∧ Kept w w' (fun _ => False)

set_option maxHeartbeats 8000000 in
set_option maxRecDepth 100000 in
theorem setUnion_calls (w0 w : World) (S T : Nat → Bool) (hB : Below w0.heap.size w0 w) :
  Calls Try.prog 84 #[.agg #[.int .u64 (wdS (S) 0), .int .u64 (wdS (S) 1), .int .u64 (wdS (S) 2), .int .u64 (wdS (S) 3), .int .u64 (wdS (S) 4), .int .u64 (wdS (S) 5), .int .u64 (wdS (S) 6), .int .u64 (wdS (S) 7)], .agg #[.int .u64 (wdS (T) 0), .int .u64 (wdS (T) 1), .int .u64 (wdS (T) 2), .int .u64 (wdS (T) 3), .int .u64 (wdS (T) 4), .int .u64 (wdS (T) 5), .int .u64 (wdS (T) 6), .int .u64 (wdS (T) 7)]] w (SetPost w0 w (orS S T)) := by
 have HSZ := Lib.hid hB.size
 obtain ⟨W1, hW1⟩ : ∃ W1, W1 = ((w.alloc (.cells #[.int .u64 (wdS (S) 0), .int .u64 (wdS (S) 1), .int .u64 (wdS (S) 2), .int .u64 (wdS (S) 3), .int .u64 (wdS (S) 4), .int .u64 (wdS (S) 5), .int .u64 (wdS (S) 6), .int .u64 (wdS (S) 7)] 92)).alloc (.cells #[.int .u64 (wdS (T) 0), .int .u64 (wdS (T) 1), .int .u64 (wdS (T) 2), .int .u64 (wdS (T) 3), .int .u64 (wdS (T) 4), .int .u64 (wdS (T) 5), .int .u64 (wdS (T) 6), .int .u64 (wdS (T) 7)] 92)).alloc (.cells #[.int .u64 0, .int .u64 0, .int .u64 0, .int .u64 0, .int .u64 0, .int .u64 0, .int .u64 0, .int .u64 0] 92) := ⟨_, rfl⟩
 have HB1 := Lib.hid (show Below w0.heap.size w0 W1 by rw [hW1]; exact below_alloc' (below_alloc' (below_alloc' hB _) _) _)
 have HK1 := Lib.hid (show Kept w W1 (fun _ => False) by rw [hW1]; exact (((Kept.refl w (fun _ => False)).alloc _).alloc _).alloc _)
 have HG := Lib.hid (show SetAt W1 w.heap.size (mixS S (orS S T) 0) by
  refine SetAt.ext (S := S) ?_ (fun i _ => by simp [mixS])
  rw [hW1]; exact blk_alloc (blk_alloc (blk_new _ _) _) _)
 have HR := Lib.hid (show W1.heap[w.heap.size + 2]? = some (.cells #[.int .u64 0, .int .u64 0, .int .u64 0, .int .u64 0, .int .u64 0, .int .u64 0, .int .u64 0, .int .u64 0] 92 (0, 0)) by
  rw [hW1]; have := blk_new ((w.alloc (.cells #[.int .u64 (wdS (S) 0), .int .u64 (wdS (S) 1), .int .u64 (wdS (S) 2), .int .u64 (wdS (S) 3), .int .u64 (wdS (S) 4), .int .u64 (wdS (S) 5), .int .u64 (wdS (S) 6), .int .u64 (wdS (S) 7)] 92)).alloc (.cells #[.int .u64 (wdS (T) 0), .int .u64 (wdS (T) 1), .int .u64 (wdS (T) 2), .int .u64 (wdS (T) 3), .int .u64 (wdS (T) 4), .int .u64 (wdS (T) 5), .int .u64 (wdS (T) 6), .int .u64 (wdS (T) 7)] 92)) (.cells #[.int .u64 0, .int .u64 0, .int .u64 0, .int .u64 0, .int .u64 0, .int .u64 0, .int .u64 0, .int .u64 0] 92); simpa using this)
 have HWW := Lib.hid (show ((w.alloc (.cells #[.int .u64 (wdS (S) 0), .int .u64 (wdS (S) 1), .int .u64 (wdS (S) 2), .int .u64 (wdS (S) 3), .int .u64 (wdS (S) 4), .int .u64 (wdS (S) 5), .int .u64 (wdS (S) 6), .int .u64 (wdS (S) 7)] 92)).alloc (.cells #[.int .u64 (wdS (T) 0), .int .u64 (wdS (T) 1), .int .u64 (wdS (T) 2), .int .u64 (wdS (T) 3), .int .u64 (wdS (T) 4), .int .u64 (wdS (T) 5), .int .u64 (wdS (T) 6), .int .u64 (wdS (T) 7)] 92)).alloc (.cells #[.int .u64 0, .int .u64 0, .int .u64 0, .int .u64 0, .int .u64 0, .int .u64 0, .int .u64 0, .int .u64 0] 92) = W1 from hW1.symm)
 have HWS := Lib.hid (show W1.heap.size = w.heap.size + 3 by rw [hW1]; simp)
 clear hB hW1
 go_enter Try.func84, Try.ntmps84
 go_wp2_with fail
 rw [HWW.out]
 obtain ⟨gb, hgb⟩ : ∃ gb, gb = w.heap.size + 1 + 1 := ⟨_, rfl⟩
 rw [← hgb]
 have HGB := Lib.hid hgb
 have HRg := Lib.hid (show W1.heap[gb]? = some (.cells #[.int .u64 0, .int .u64 0, .int .u64 0, .int .u64 0, .int .u64 0, .int .u64 0, .int .u64 0, .int .u64 0] 92 (0, 0)) by rw [hgb]; exact HR.out)
 clear hgb
 go_loopg [9] 8 (fun g v9 w' => ∃ k : Nat, v9 = .int .i64 k ∧ k ≤ 8 ∧ Aside0 (g + k = 8) ∧ Aside0 (SetAt w' w.heap.size (mixS S (orS S T) k)) ∧ Aside0 (Below w0.heap.size w0 w') ∧ Aside0 (Kept W1 w' (fun k => k = w.heap.size)))
 case atStart => exact ⟨0, rfl, by omega, ⟨rfl⟩, ⟨HG.out⟩, ⟨HB1.out⟩, ⟨Kept.refl _ _⟩⟩
 case round =>
  obtain ⟨k, rfl, hk, HM, HS, HB, HK⟩ := hrel
  by_cases h : k < 8
  ·
   have HGt := Lib.hid (HS.out.get k h)
   have HO := Lib.hid (show Go.bits .or .u64 (wdS (mixS S (orS S T) k) k) (wdS T k) = wdS (mixS S (orS S T) (k + 1)) k by rw [mix_at, mix_lt, wdS_or])
   have HPT := Lib.hid (HS.out.put (T := mixS S (orS S T) (k + 1)) k h (fun j hj => mix_ne _ _ _ _ hj))
   have HIX := Lib.hid (show ∀ W, (Instr.index 90 (.agg #[.int .u64 (wdS (T) 0), .int .u64 (wdS (T) 1), .int .u64 (wdS (T) 2), .int .u64 (wdS (T) 3), .int .u64 (wdS (T) 4), .int .u64 (wdS (T) 5), .int .u64 (wdS (T) 6), .int .u64 (wdS (T) 7)]) (.int .i64 (k : Int))).run Try.prog W = .ok (.int .u64 (wdS T k)) W from fun W => by
    obtain rfl | rfl | rfl | rfl | rfl | rfl | rfl | rfl : k = 0 ∨ k = 1 ∨ k = 2 ∨ k = 3 ∨ k = 4 ∨ k = 5 ∨ k = 6 ∨ k = 7 := by omega
    ·
     exact idx8_0 W _ _ _ _ _ _ _ _
    ·
     exact idx8_1 W _ _ _ _ _ _ _ _
    ·
     exact idx8_2 W _ _ _ _ _ _ _ _
    ·
     exact idx8_3 W _ _ _ _ _ _ _ _
    ·
     exact idx8_4 W _ _ _ _ _ _ _ _
    ·
     exact idx8_5 W _ _ _ _ _ _ _ _
    ·
     exact idx8_6 W _ _ _ _ _ _ _ _
    ·
     exact idx8_7 W _ _ _ _ _ _ _ _)
   obtain ⟨hg1, hg2⟩ := HGt.out
   have ho := HO.out
   have hix := HIX.out
   have hk8 : (k : Int) < 8 := by omega
   have q1 : decide ((k : Int) < 8) = true := decide_eq_true hk8
   have HBn := Lib.hid (HB.out.setCell (p := ⟨w.heap.size, k, none⟩) (by have := HSZ.out; simp; omega) (.int .u64 (wdS (mixS S (orS S T) (k + 1)) k)))
   have HKn := Lib.hid (HK.out.setCell (p := ⟨w.heap.size, k, none⟩) (.inl rfl) (.int .u64 (wdS (mixS S (orS S T) (k + 1)) k)))
   obtain ⟨Mn, hMn⟩ : ∃ M, mixS S (orS S T) (k + 1) = M := ⟨_, rfl⟩
   rw [hMn] at ho HPT HBn HKn
   have HMN := Lib.hid hMn
   clear hMn HO
   generalize mixS S (orS S T) k = Mo at ho hg1
   go_wp2_with fail
   go_roundg (8 - (k + 1))
   case measure => have := HM.out; omega
   case rel => exact ⟨k + 1, by go_num, by omega, ⟨by omega⟩, ⟨by rw [HMN.out]; exact HPT.out⟩, ⟨HBn.out⟩, ⟨HKn.out⟩⟩
  ·
   have q1 : decide ((k : Int) < 8) = false := decide_eq_false (by omega)
   obtain rfl : k = 8 := by omega
   have HSL := Lib.hid (SetAt.ext (T := orS S T) HS.out (fun i hi => by unfold mixS; rw [if_pos (by omega)]))
   have HRr := Lib.hid (show wr.heap[gb]? = some (.cells #[.int .u64 0, .int .u64 0, .int .u64 0, .int .u64 0, .int .u64 0, .int .u64 0, .int .u64 0, .int .u64 0] 92 (0, 0)) from blk_kept HRg.out HK.out (fun h => by have h9 : gb = w.heap.size := h; have := HGB.out; omega))
   obtain ⟨h0, _⟩ := HSL.out.get 0 (by decide); obtain ⟨h1, _⟩ := HSL.out.get 1 (by decide); obtain ⟨h2, _⟩ := HSL.out.get 2 (by decide); obtain ⟨h3, _⟩ := HSL.out.get 3 (by decide)
   obtain ⟨h4, _⟩ := HSL.out.get 4 (by decide); obtain ⟨h5, _⟩ := HSL.out.get 5 (by decide); obtain ⟨h6, _⟩ := HSL.out.get 6 (by decide); obtain ⟨h7, _⟩ := HSL.out.get 7 (by decide)
   (have ez : ∀ j, j < 8 → wr.cell? ⟨gb, j, none⟩ = some (.int .u64 0) ∧ wr.frozen? ⟨gb, j, none⟩ = false := fun j hj => ⟨(by rw [blk_cell HRr.out]; obtain rfl | rfl | rfl | rfl | rfl | rfl | rfl | rfl : j = 0 ∨ j = 1 ∨ j = 2 ∨ j = 3 ∨ j = 4 ∨ j = 5 ∨ j = 6 ∨ j = 7 := (by omega); all_goals rfl), blk_frozen HRr.out _⟩); obtain ⟨ez0, ef0⟩ := ez 0 (by decide); obtain ⟨ez1, ef1⟩ := ez 1 (by decide); obtain ⟨ez2, ef2⟩ := ez 2 (by decide); obtain ⟨ez3, ef3⟩ := ez 3 (by decide); obtain ⟨ez4, ef4⟩ := ez 4 (by decide); obtain ⟨ez5, ef5⟩ := ez 5 (by decide); obtain ⟨ez6, ef6⟩ := ez 6 (by decide); obtain ⟨ez7, ef7⟩ := ez 7 (by decide); clear ez
   have HKw := Lib.hid (HK1.out.then_ HK.out (fun k hk => .inr (by omega)))
   clear HS
   go_wp2_with fail
   refine bodyPost_ret (v := .agg #[.int .u64 (wdS (orS S T) 0), .int .u64 (wdS (orS S T) 1), .int .u64 (wdS (orS S T) 2), .int .u64 (wdS (orS S T) 3), .int .u64 (wdS (orS S T) 4), .int .u64 (wdS (orS S T) 5), .int .u64 (wdS (orS S T) 6), .int .u64 (wdS (orS S T) 7)]) (results_cell Try.results84 _ _ gb _ _ _ _ rfl (put8 HRr.out _ _ _ _ _ _ _ _) Try.underlying92 rfl (by kernel_rfl)) rfl ⟨rfl, below8 HB.out (by have := HSZ.out; have := HGB.out; omega) _ _ _ _ _ _ _ _, kept8 HKw.out (.inr (by have := HGB.out; omega)) _ _ _ _ _ _ _ _⟩
end Go.Proofs.Ytenhigpeafaidaa.Wire
-- Sd
namespace Go.Proofs.Ytenhigpeafaidaa.Wire
open Go.RowKit Go.Proofs.YtenhigpeafaidaaW.PrintWords Go.Proofs.YtenhigpeafaidaaW.PrintLast Go.Proofs.YtenhigpeafaidaaW.PrintMore
set_option linter.unusedVariables false
set_option linter.unusedSimpArgs false

def AddSetPost (w0 w : World) (S : Nat → Bool) (i : Int) (r : Ending) (w' : World) : Prop :=
 (inS i = true ∧ r = .returned (.tuple #[.agg #[.int .u64 (wdS (orS S (listS [i])) 0), .int .u64 (wdS (orS S (listS [i])) 1), .int .u64 (wdS (orS S (listS [i])) 2), .int .u64 (wdS (orS S (listS [i])) 3), .int .u64 (wdS (orS S (listS [i])) 4), .int .u64 (wdS (orS S (listS [i])) 5), .int .u64 (wdS (orS S (listS [i])) 6), .int .u64 (wdS (orS S (listS [i])) 7)], .int .i64 0]) ∧ Below w0.heap.size w0 w' ∧ Kept w w' (fun _ => False)) ∨ (inS i = false ∧ r = .returned (.tuple #[.agg #[.int .u64 0, .int .u64 0, .int .u64 0, .int .u64 0, .int .u64 0, .int .u64 0, .int .u64 0, .int .u64 0], .int .i64 2]) ∧ Below w0.heap.size w0 w' ∧ Kept w w' (fun _ => False))
set_option maxHeartbeats 8000000 in
set_option maxRecDepth 100000 in
theorem setAdd_calls (w0 w : World) (S : Nat → Bool) (i : Int) (hB : Below w0.heap.size w0 w) :
  Calls Try.prog 63 #[.agg #[.int .u64 (wdS (S) 0), .int .u64 (wdS (S) 1), .int .u64 (wdS (S) 2), .int .u64 (wdS (S) 3), .int .u64 (wdS (S) 4), .int .u64 (wdS (S) 5), .int .u64 (wdS (S) 6), .int .u64 (wdS (S) 7)], .int .i64 i] w (AddSetPost w0 w S i) := by
 have HSZ := Lib.hid hB.size
 obtain ⟨W1, hW1⟩ : ∃ W1, W1 = ((w.alloc (.cells #[.int .u64 (wdS (S) 0), .int .u64 (wdS (S) 1), .int .u64 (wdS (S) 2), .int .u64 (wdS (S) 3), .int .u64 (wdS (S) 4), .int .u64 (wdS (S) 5), .int .u64 (wdS (S) 6), .int .u64 (wdS (S) 7)] 92)).alloc (.cells #[.int .u64 0, .int .u64 0, .int .u64 0, .int .u64 0, .int .u64 0, .int .u64 0, .int .u64 0, .int .u64 0] 92)).alloc (.cells #[.int .i64 i] 3) := ⟨_, rfl⟩
 have HB1 := Lib.hid (show Below w0.heap.size w0 W1 by rw [hW1]; exact below_alloc' (below_alloc' (below_alloc' hB _) _) _)
 have HK1 := Lib.hid (show Kept w W1 (fun _ => False) by rw [hW1]; exact (((Kept.refl w (fun _ => False)).alloc _).alloc _).alloc _)
 have HG := Lib.hid (show SetAt W1 w.heap.size S by rw [hW1]; exact blk_alloc (blk_alloc (blk_new _ _) _) _)
 have HR := Lib.hid (show W1.heap[w.heap.size + 1]? = some (.cells #[.int .u64 0, .int .u64 0, .int .u64 0, .int .u64 0, .int .u64 0, .int .u64 0, .int .u64 0, .int .u64 0] 92 (0, 0)) by
  rw [hW1]; refine blk_alloc ?_ _; have := blk_new (w.alloc (.cells #[.int .u64 (wdS (S) 0), .int .u64 (wdS (S) 1), .int .u64 (wdS (S) 2), .int .u64 (wdS (S) 3), .int .u64 (wdS (S) 4), .int .u64 (wdS (S) 5), .int .u64 (wdS (S) 6), .int .u64 (wdS (S) 7)] 92)) (.cells #[.int .u64 0, .int .u64 0, .int .u64 0, .int .u64 0, .int .u64 0, .int .u64 0, .int .u64 0, .int .u64 0] 92); simpa using this)
 have HL := Lib.hid (show W1.heap[w.heap.size + 1 + 1]? = some (.cells #[.int .i64 i] 3 (0, 0)) by
  rw [hW1]; have := blk_new ((w.alloc (.cells #[.int .u64 (wdS (S) 0), .int .u64 (wdS (S) 1), .int .u64 (wdS (S) 2), .int .u64 (wdS (S) 3), .int .u64 (wdS (S) 4), .int .u64 (wdS (S) 5), .int .u64 (wdS (S) 6), .int .u64 (wdS (S) 7)] 92)).alloc (.cells #[.int .u64 0, .int .u64 0, .int .u64 0, .int .u64 0, .int .u64 0, .int .u64 0, .int .u64 0, .int .u64 0] 92)) (.cells #[.int .i64 i] 3); simpa using this)
 have HO := Lib.hid (setOf_calls w0 W1 [i] (some ⟨w.heap.size + 1 + 1, 0, none⟩) 1 HB1.out (C_blk HL.out [i] rfl (by simp)) (by simp))
 have HWW := Lib.hid (show ((w.alloc (.cells #[.int .u64 (wdS (S) 0), .int .u64 (wdS (S) 1), .int .u64 (wdS (S) 2), .int .u64 (wdS (S) 3), .int .u64 (wdS (S) 4), .int .u64 (wdS (S) 5), .int .u64 (wdS (S) 6), .int .u64 (wdS (S) 7)] 92)).alloc (.cells #[.int .u64 0, .int .u64 0, .int .u64 0, .int .u64 0, .int .u64 0, .int .u64 0, .int .u64 0, .int .u64 0] 92)).alloc (.cells #[.int .i64 i] 3) = W1 from hW1.symm)
 obtain ⟨gb, hgb⟩ : ∃ gb, gb = w.heap.size + 1 := ⟨_, rfl⟩
 have HGB := Lib.hid hgb
 have HRg := Lib.hid (show W1.heap[gb]? = some (.cells #[.int .u64 0, .int .u64 0, .int .u64 0, .int .u64 0, .int .u64 0, .int .u64 0, .int .u64 0, .int .u64 0] 92 (0, 0)) by rw [hgb]; exact HR.out)
 clear hB hW1 hgb HL HR
 go_enter Try.func63, Try.ntmps63
 go_wp2_with fail
 rw [HWW.out]
 refine HO.out.mono ?_
 rintro r w2 hP
 rcases hP with ⟨hi, rfl, hB2, hK2⟩ | ⟨hi, rfl, hB2, hK2⟩
 ·
  have hi1 : inS i = true := by simpa using hi
  obtain ⟨U, hU⟩ : ∃ U, listS [i] = U := ⟨_, rfl⟩
  have HU := Lib.hid hU
  rw [hU]
  have HI := Lib.hid hi1
  have HG2 := Lib.hid (fun o => show SetAt (w2.alloc o) w.heap.size S from blk_alloc (blk_kept HG.out hK2 id) o)
  have HG3 := Lib.hid (show SetAt (w2.alloc (.cells #[.int .u64 (wdS (U) 0), .int .u64 (wdS (U) 1), .int .u64 (wdS (U) 2), .int .u64 (wdS (U) 3), .int .u64 (wdS (U) 4), .int .u64 (wdS (U) 5), .int .u64 (wdS (U) 6), .int .u64 (wdS (U) 7)] 92)) w2.heap.size U from blk_new _ _)
  have HUN := Lib.hid (setUnion_calls w0 (w2.alloc (.cells #[.int .u64 (wdS (U) 0), .int .u64 (wdS (U) 1), .int .u64 (wdS (U) 2), .int .u64 (wdS (U) 3), .int .u64 (wdS (U) 4), .int .u64 (wdS (U) 5), .int .u64 (wdS (U) 6), .int .u64 (wdS (U) 7)] 92)) S U (below_alloc' hB2 _))
  have HR2 := Lib.hid (blk_alloc (blk_kept HRg.out hK2 id) (.cells #[.int .u64 (wdS (U) 0), .int .u64 (wdS (U) 1), .int .u64 (wdS (U) 2), .int .u64 (wdS (U) 3), .int .u64 (wdS (U) 4), .int .u64 (wdS (U) 5), .int .u64 (wdS (U) 6), .int .u64 (wdS (U) 7)] 92))
  have HK2 := Lib.hid ((HK1.out.then_ hK2 (fun _ h => h.elim)).alloc (.cells #[.int .u64 (wdS (U) 0), .int .u64 (wdS (U) 1), .int .u64 (wdS (U) 2), .int .u64 (wdS (U) 3), .int .u64 (wdS (U) 4), .int .u64 (wdS (U) 5), .int .u64 (wdS (U) 6), .int .u64 (wdS (U) 7)] 92))
  clear hB2 hK2 hi hi1 hU
  obtain ⟨a0, _⟩ := (HG2.out (.cells #[.int .u64 (wdS (U) 0), .int .u64 (wdS (U) 1), .int .u64 (wdS (U) 2), .int .u64 (wdS (U) 3), .int .u64 (wdS (U) 4), .int .u64 (wdS (U) 5), .int .u64 (wdS (U) 6), .int .u64 (wdS (U) 7)] 92)).get 0 (by decide); obtain ⟨a1, _⟩ := (HG2.out (.cells #[.int .u64 (wdS (U) 0), .int .u64 (wdS (U) 1), .int .u64 (wdS (U) 2), .int .u64 (wdS (U) 3), .int .u64 (wdS (U) 4), .int .u64 (wdS (U) 5), .int .u64 (wdS (U) 6), .int .u64 (wdS (U) 7)] 92)).get 1 (by decide); obtain ⟨a2, _⟩ := (HG2.out (.cells #[.int .u64 (wdS (U) 0), .int .u64 (wdS (U) 1), .int .u64 (wdS (U) 2), .int .u64 (wdS (U) 3), .int .u64 (wdS (U) 4), .int .u64 (wdS (U) 5), .int .u64 (wdS (U) 6), .int .u64 (wdS (U) 7)] 92)).get 2 (by decide); obtain ⟨a3, _⟩ := (HG2.out (.cells #[.int .u64 (wdS (U) 0), .int .u64 (wdS (U) 1), .int .u64 (wdS (U) 2), .int .u64 (wdS (U) 3), .int .u64 (wdS (U) 4), .int .u64 (wdS (U) 5), .int .u64 (wdS (U) 6), .int .u64 (wdS (U) 7)] 92)).get 3 (by decide)
  obtain ⟨a4, _⟩ := (HG2.out (.cells #[.int .u64 (wdS (U) 0), .int .u64 (wdS (U) 1), .int .u64 (wdS (U) 2), .int .u64 (wdS (U) 3), .int .u64 (wdS (U) 4), .int .u64 (wdS (U) 5), .int .u64 (wdS (U) 6), .int .u64 (wdS (U) 7)] 92)).get 4 (by decide); obtain ⟨a5, _⟩ := (HG2.out (.cells #[.int .u64 (wdS (U) 0), .int .u64 (wdS (U) 1), .int .u64 (wdS (U) 2), .int .u64 (wdS (U) 3), .int .u64 (wdS (U) 4), .int .u64 (wdS (U) 5), .int .u64 (wdS (U) 6), .int .u64 (wdS (U) 7)] 92)).get 5 (by decide); obtain ⟨a6, _⟩ := (HG2.out (.cells #[.int .u64 (wdS (U) 0), .int .u64 (wdS (U) 1), .int .u64 (wdS (U) 2), .int .u64 (wdS (U) 3), .int .u64 (wdS (U) 4), .int .u64 (wdS (U) 5), .int .u64 (wdS (U) 6), .int .u64 (wdS (U) 7)] 92)).get 6 (by decide); obtain ⟨a7, _⟩ := (HG2.out (.cells #[.int .u64 (wdS (U) 0), .int .u64 (wdS (U) 1), .int .u64 (wdS (U) 2), .int .u64 (wdS (U) 3), .int .u64 (wdS (U) 4), .int .u64 (wdS (U) 5), .int .u64 (wdS (U) 6), .int .u64 (wdS (U) 7)] 92)).get 7 (by decide)
  go_wp2_with fail
  refine HUN.out.mono ?_
  rintro r w3 ⟨rfl, hB3, hK3⟩
  have HRr := Lib.hid (blk_kept HR2.out hK3 id)
  have HB3 := Lib.hid hB3; have HK3 := Lib.hid (HK2.out.then_ hK3 (fun _ h => h.elim))
  (have ez : ∀ j, j < 8 → w3.cell? ⟨gb, j, none⟩ = some (.int .u64 0) ∧ w3.frozen? ⟨gb, j, none⟩ = false := fun j hj => ⟨(by rw [blk_cell HRr.out]; obtain rfl | rfl | rfl | rfl | rfl | rfl | rfl | rfl : j = 0 ∨ j = 1 ∨ j = 2 ∨ j = 3 ∨ j = 4 ∨ j = 5 ∨ j = 6 ∨ j = 7 := (by omega); all_goals rfl), blk_frozen HRr.out _⟩); obtain ⟨ez0, ef0⟩ := ez 0 (by decide); obtain ⟨ez1, ef1⟩ := ez 1 (by decide); obtain ⟨ez2, ef2⟩ := ez 2 (by decide); obtain ⟨ez3, ef3⟩ := ez 3 (by decide); obtain ⟨ez4, ef4⟩ := ez 4 (by decide); obtain ⟨ez5, ef5⟩ := ez 5 (by decide); obtain ⟨ez6, ef6⟩ := ez 6 (by decide); obtain ⟨ez7, ef7⟩ := ez 7 (by decide); clear ez
  clear hB3 hK3
  rw [← HGB.out]
  go_wp2_with fail
  refine bodyPost_ret (v := .tuple #[.agg #[.int .u64 (wdS (orS S U) 0), .int .u64 (wdS (orS S U) 1), .int .u64 (wdS (orS S U) 2), .int .u64 (wdS (orS S U) 3), .int .u64 (wdS (orS S U) 4), .int .u64 (wdS (orS S U) 5), .int .u64 (wdS (orS S U) 6), .int .u64 (wdS (orS S U) 7)], .int .i64 0]) (results_ct Try.results63 _ _ gb _ _ _ _ rfl (put8 HRr.out _ _ _ _ _ _ _ _) Try.underlying92 rfl (by kernel_rfl)) rfl (.inl ⟨HI.out, by rw [HU.out], below8 HB3.out (by have := HSZ.out; have := HGB.out; omega) _ _ _ _ _ _ _ _, kept8 HK3.out (.inr (by have := HGB.out; omega)) _ _ _ _ _ _ _ _⟩)
 ·
  have hi1 : inS i = false := by simpa using hi
  have HI := Lib.hid hi1
  have HRr := Lib.hid (blk_alloc (blk_kept HRg.out hK2 id) (.cells #[.int .u64 0, .int .u64 0, .int .u64 0, .int .u64 0, .int .u64 0, .int .u64 0, .int .u64 0, .int .u64 0] 92))
  have HB2 := Lib.hid (below_alloc' hB2 (.cells #[.int .u64 0, .int .u64 0, .int .u64 0, .int .u64 0, .int .u64 0, .int .u64 0, .int .u64 0, .int .u64 0] 92))
  have HK2 := Lib.hid ((HK1.out.then_ hK2 (fun _ h => h.elim)).alloc (.cells #[.int .u64 0, .int .u64 0, .int .u64 0, .int .u64 0, .int .u64 0, .int .u64 0, .int .u64 0, .int .u64 0] 92))
  (have ez : ∀ j, j < 8 → (w2.alloc (.cells #[.int .u64 0, .int .u64 0, .int .u64 0, .int .u64 0, .int .u64 0, .int .u64 0, .int .u64 0, .int .u64 0] 92)).cell? ⟨gb, j, none⟩ = some (.int .u64 0) ∧ (w2.alloc (.cells #[.int .u64 0, .int .u64 0, .int .u64 0, .int .u64 0, .int .u64 0, .int .u64 0, .int .u64 0, .int .u64 0] 92)).frozen? ⟨gb, j, none⟩ = false := fun j hj => ⟨(by rw [blk_cell HRr.out]; obtain rfl | rfl | rfl | rfl | rfl | rfl | rfl | rfl : j = 0 ∨ j = 1 ∨ j = 2 ∨ j = 3 ∨ j = 4 ∨ j = 5 ∨ j = 6 ∨ j = 7 := (by omega); all_goals rfl), blk_frozen HRr.out _⟩); obtain ⟨ez0, ef0⟩ := ez 0 (by decide); obtain ⟨ez1, ef1⟩ := ez 1 (by decide); obtain ⟨ez2, ef2⟩ := ez 2 (by decide); obtain ⟨ez3, ef3⟩ := ez 3 (by decide); obtain ⟨ez4, ef4⟩ := ez 4 (by decide); obtain ⟨ez5, ef5⟩ := ez 5 (by decide); obtain ⟨ez6, ef6⟩ := ez 6 (by decide); obtain ⟨ez7, ef7⟩ := ez 7 (by decide); clear ez
  clear hB2 hK2 hi hi1
  rw [← HGB.out]
  go_wp2_with fail
  refine bodyPost_ret (v := .tuple #[.agg #[.int .u64 0, .int .u64 0, .int .u64 0, .int .u64 0, .int .u64 0, .int .u64 0, .int .u64 0, .int .u64 0], .int .i64 2]) (results_ct Try.results63 _ _ gb _ _ _ _ rfl (put8 HRr.out 0 0 0 0 0 0 0 0) Try.underlying92 rfl (by kernel_rfl)) rfl (.inr ⟨HI.out, rfl, below8 HB2.out (by have := HSZ.out; have := HGB.out; omega) _ _ _ _ _ _ _ _, kept8 HK2.out (.inr (by have := HGB.out; omega)) _ _ _ _ _ _ _ _⟩)
end Go.Proofs.Ytenhigpeafaidaa.Wire
-- Ba
namespace Go.Proofs.Ytenhigpeafaidaa.Wire
open Go.RowKit Go.Maps Go.Proofs.YtenhigpeafaidaaW.PrintWords Go.Proofs.YtenhigpeafaidaaW.PrintLast Go.Proofs.YtenhigpeafaidaaW.PrintMore
set_option linter.unusedVariables false
set_option linter.unusedSimpArgs false

/-- The numbers of cleared channels, and the table as a map reads. -/
def tabL : List Int := [24, 23, 21, 19, 18, 14, 13, 12, 10, 8, 7]
def tabD : Nat → DataW Unit
 | 0 => .map []
 | k + 1 => (tabD k).put (.int .i64 (tabL.getD k 0)) (.lit (.int .i64 (12 - (k : Int))))
theorem mapLaw : Keyed Try.prog 3 := int_keyed Try.underlying3
theorem mapZero (w : World) : (zeroValue 3).run Try.prog w = .ok (.int .i64 0) w := by kernel_rfl

def TabAt (w : World) (b k : Nat) : Prop := w.ownsMap Try.prog 3 (plainElem Try.prog 3) b k (tabD k)
def tabV : Array Value := #[.int .i64 24, .int .i64 23, .int .i64 21, .int .i64 19, .int .i64 18, .int .i64 14, .int .i64 13, .int .i64 12, .int .i64 10, .int .i64 8, .int .i64 7]

theorem TabAt.kept {w w' : World} {b k : Nat} {S : Nat → Prop} (h : TabAt w b k) (hk : Kept w w' S) (hne : ¬ S b) : TabAt w' b k := by
 have hlt := World.ownsMap.lt h
 obtain ⟨es, clock, hb, F⟩ := h
 exact ⟨es, clock, (hk.2 b hlt hne).trans hb, F⟩
theorem Kept.setCells {w0 : World} {S : Nat → Prop} (b : Nat) (hb : S b ∨ w0.heap.size ≤ b) : ∀ (vs : List Value) (o : Nat) (w : World), Kept w0 w S → Kept w0 (w.setCells b o vs) S
 | [], _, _, h => h
 | v :: r, o, w, h => Kept.setCells b hb r (o + 1) _ (Kept.setCell h (p := ⟨b, o, none⟩) hb v)
theorem Below.setCells {w0 : World} (b : Nat) (hb : w0.heap.size ≤ b) : ∀ (vs : List Value) (o : Nat) (w : World), Below w0.heap.size w0 w → Below w0.heap.size w0 (w.setCells b o vs)
 | [], _, _, h => h
 | v :: r, o, w, h => Below.setCells b hb r (o + 1) _ (h.setCell (p := ⟨b, o, none⟩) hb v)
theorem tabV_at (k : Nat) (hk : k < 11) : tabV[k]? = some (.int .i64 (tabL.getD k 0)) := by
 match k, hk with
 | 0, _ => rfl
 | 1, _ => rfl
 | 2, _ => rfl
 | 3, _ => rfl
 | 4, _ => rfl
 | 5, _ => rfl
 | 6, _ => rfl
 | 7, _ => rfl
 | 8, _ => rfl
 | 9, _ => rfl
 | 10, _ => rfl
theorem tab_index : ∀ (k : Nat) (_ : k < 11) (W : World), (Instr.index 107 (.agg tabV) (.int .i64 (k : Int))).run Try.prog W = .ok (.int .i64 (tabL.getD k 0)) W
 | 0, _, W => by kernel_rfl
 | 1, _, W => by kernel_rfl
 | 2, _, W => by kernel_rfl
 | 3, _, W => by kernel_rfl
 | 4, _, W => by kernel_rfl
 | 5, _, W => by kernel_rfl
 | 6, _, W => by kernel_rfl
 | 7, _, W => by kernel_rfl
 | 8, _, W => by kernel_rfl
 | 9, _, W => by kernel_rfl
 | 10, _, W => by kernel_rfl
 | k + 11, h, _ => by omega
theorem tabL_lt (k : Nat) (hk : k < 11) : 7 ≤ tabL.getD k 0 ∧ tabL.getD k 0 ≤ 24 := by
 match k, hk with
 | 0, _ => decide
 | 1, _ => decide
 | 2, _ => decide
 | 3, _ => decide
 | 4, _ => decide
 | 5, _ => decide
 | 6, _ => decide
 | 7, _ => decide
 | 8, _ => decide
 | 9, _ => decide
 | 10, _ => decide
theorem wf_small {a : Int} (h0 : -1000000 ≤ a) (h1 : a ≤ 1000000) : (Lit.int .i64 a).wf = true := by
 simp [Lit.wf]
 have e1 : IntKind.i64.min = -9223372036854775808 := by rfl
 have e2 : IntKind.i64.max = 9223372036854775807 := by rfl
 omega

set_option maxRecDepth 100000 in
set_option maxHeartbeats 2000000 in
theorem table_calls (w0 w : World) (hB : Below w0.heap.size w0 w) :
  Calls Try.prog 54 #[] w (fun r w' => ∃ b, r = .returned (.tuple #[.agg tabV, .map (some b)]) ∧ w.heap.size ≤ b ∧ TabAt w' b 11 ∧ Below w0.heap.size w0 w' ∧ Kept w w' (fun _ => False)) := by
 have hmm := @run_makeMap Try.prog
 have HB := Lib.hid hB
 have HSZ := Lib.hid hB.size
 clear hB
 have HT0 := Lib.hid (show TabAt (((w.alloc (.cells #[.int .i64 0, .int .i64 0, .int .i64 0, .int .i64 0, .int .i64 0, .int .i64 0, .int .i64 0, .int .i64 0, .int .i64 0, .int .i64 0, .int .i64 0] 107)).alloc (.cells tabV 107)).alloc (.map #[] 0)) (w.heap.size + 1 + 1) 0 from by have h := World.ownsMap_made (H := Unit) ((w.alloc (.cells #[.int .i64 0, .int .i64 0, .int .i64 0, .int .i64 0, .int .i64 0, .int .i64 0, .int .i64 0, .int .i64 0, .int .i64 0, .int .i64 0, .int .i64 0] 107)).alloc (.cells tabV 107)) Try.prog 3 (plainElem Try.prog 3); simpa [TabAt, tabD] using h)
 have HG0 := Lib.hid (show (((w.alloc (.cells #[.int .i64 0, .int .i64 0, .int .i64 0, .int .i64 0, .int .i64 0, .int .i64 0, .int .i64 0, .int .i64 0, .int .i64 0, .int .i64 0, .int .i64 0] 107)).alloc (.cells tabV 107)).alloc (.map #[] 0)).heap[w.heap.size]? = some (.cells #[.int .i64 0, .int .i64 0, .int .i64 0, .int .i64 0, .int .i64 0, .int .i64 0, .int .i64 0, .int .i64 0, .int .i64 0, .int .i64 0, .int .i64 0] 107 (0, 0)) from blk_alloc (blk_alloc (blk_new _ _) _) _)
 have HG1 := Lib.hid (show (((w.alloc (.cells #[.int .i64 0, .int .i64 0, .int .i64 0, .int .i64 0, .int .i64 0, .int .i64 0, .int .i64 0, .int .i64 0, .int .i64 0, .int .i64 0, .int .i64 0] 107)).alloc (.cells tabV 107)).alloc (.map #[] 0)).heap[w.heap.size + 1]? = some (.cells tabV 107 (0, 0)) from blk_alloc (by have h := blk_new (w.alloc (.cells #[.int .i64 0, .int .i64 0, .int .i64 0, .int .i64 0, .int .i64 0, .int .i64 0, .int .i64 0, .int .i64 0, .int .i64 0, .int .i64 0, .int .i64 0] 107)) (.cells tabV 107); simpa using h) _)
 have HK0 := Lib.hid ((((Kept.refl w (fun _ => False)).alloc (.cells #[.int .i64 0, .int .i64 0, .int .i64 0, .int .i64 0, .int .i64 0, .int .i64 0, .int .i64 0, .int .i64 0, .int .i64 0, .int .i64 0, .int .i64 0] 107)).alloc (.cells tabV 107)).alloc (.map #[] 0))
 have HB0 := Lib.hid (below_alloc' (below_alloc' (below_alloc' HB.out (.cells #[.int .i64 0, .int .i64 0, .int .i64 0, .int .i64 0, .int .i64 0, .int .i64 0, .int .i64 0, .int .i64 0, .int .i64 0, .int .i64 0, .int .i64 0] 107)) (.cells tabV 107)) (.map #[] 0))
 unfold tabV at HT0 HG1 HK0 HB0
 go_enter Try.func54, Try.ntmps54
 go_wp2_with fail
 go_loopg [9] 11 (fun g v9 w' => ∃ k : Nat, v9 = .int .i64 k ∧ k ≤ 11 ∧ Aside0 (g + k = 11) ∧ Aside0 (TabAt w' (w.heap.size + 1 + 1) k) ∧ Aside0 (Below w0.heap.size w0 w') ∧ Aside0 (Kept w w' (fun _ => False)) ∧
  Aside0 (w'.heap[w.heap.size]? = some (.cells #[.int .i64 0, .int .i64 0, .int .i64 0, .int .i64 0, .int .i64 0, .int .i64 0, .int .i64 0, .int .i64 0, .int .i64 0, .int .i64 0, .int .i64 0] 107 (0, 0))) ∧ Aside0 (w'.heap[w.heap.size + 1]? = some (.cells tabV 107 (0, 0))))
 case atStart => exact ⟨0, rfl, by omega, ⟨rfl⟩, ⟨HT0.out⟩, ⟨HB0.out⟩, ⟨HK0.out⟩, ⟨HG0.out⟩, ⟨HG1.out⟩⟩
 case round =>
  obtain ⟨k, rfl, hk, HM, HT, HB, HK, HG0, HG1⟩ := hrel
  clear HT0
  by_cases h : k < 11
  ·
   have c1 : decide ((k : Int) < 11) = true := decide_eq_true (by omega)
   have hx := tab_index k h wr
   have hL := tabL_lt k h
   have HS := Lib.hid (show tabD (k + 1) = (tabD k).put (.int .i64 (tabL.getD k 0)) (.lit (.int .i64 (12 - (k : Int)))) from rfl)
   generalize tabL.getD k 0 = x at hx hL HS
   unfold tabV at hx
   have hw1 : IntKind.i64.wrap (12 - (k : Int)) = 12 - (k : Int) := by rw [IntKind.wrap_i64]; omega
   have hkey : keyOf Try.prog 3 (.int .i64 x) = some (.int .i64 x) := keyOf_int_mk Try.underlying3 (wf_small (by omega) (by omega))
   have HTr := HT.out
   unfold TabAt at HTr
   go_wp2_with (first | (at_mapUpdate; refine wpList_mapUpdate_own _ rfl _ _ _ 108 rfl 3 3 mapLaw Try.underlying108 _ (w.heap.size + 1 + 1) k _ rfl HTr (by unfold maxLen; omega) _ _ _ rfl rfl hkey _ [] (plainElem_int Try.underlying3 (wf_small (by omega) (by omega))) ?_; intro w1 hown1 hgrow1) | fail)
   go_roundg (11 - (k + 1))
   case measure => have := HM.out; omega
   case rel =>
    have hk1 := Kept.of_grown hgrow1 (Kept.refl wr (fun k => k = w.heap.size + 1 + 1)) (fun k hk => .inl (by cases hk; rfl))
    have hs := HK.out.1
    exact ⟨k + 1, by go_num, by omega, ⟨by omega⟩, ⟨by unfold TabAt; rw [HS.out]; exact hown1⟩, ⟨HB.out.grown hgrow1 HB.out.size (fun j hj => by cases hj; have := HSZ.out; omega)⟩, ⟨HK.out.then_ hk1 (fun k hk => .inr (by omega))⟩, ⟨blk_kept HG0.out hk1 (by omega)⟩, ⟨blk_kept HG1.out hk1 (by omega)⟩⟩
  ·
   have c1 : decide ((k : Int) < 11) = false := decide_eq_false (by omega)
   obtain rfl : k = 11 := by omega
   have hrow : (Try.prog.info? 107).map (·.size) = some 11 := by kernel_rfl
   have hr : wr.rangeAt (w.heap.size + 1) 0 [.int .i64 24, .int .i64 23, .int .i64 21, .int .i64 19, .int .i64 18, .int .i64 14, .int .i64 13, .int .i64 12, .int .i64 10, .int .i64 8, .int .i64 7] := fun j v hv => by
    rw [Nat.zero_add, blk_cell HG1.out j, ← Array.getElem?_toList]; exact hv
   have ht : wr.there w.heap.size 0 11 := fun j hj => by
    rw [Nat.zero_add]
    refine ⟨?_, blk_frozen HG0.out j⟩
    rw [blk_cell HG0.out j]
    match j, hj with
    | 0, _ => rfl
    | 1, _ => rfl
    | 2, _ => rfl
    | 3, _ => rfl
    | 4, _ => rfl
    | 5, _ => rfl
    | 6, _ => rfl
    | 7, _ => rfl
    | 8, _ => rfl
    | 9, _ => rfl
    | 10, _ => rfl
   have h1 : (([.int .i64 24, .int .i64 23, .int .i64 21, .int .i64 19, .int .i64 18, .int .i64 14, .int .i64 13, .int .i64 12, .int .i64 10, .int .i64 8, .int .i64 7] : List Value).toArray).all (·.oneCell') = true := all_oneCell_toArray (by simp [Value.oneCell'])
   have hlv := run_loadVar_mid (P := Try.prog) (wr.setCells w.heap.size 0 [.int .i64 24, .int .i64 23, .int .i64 21, .int .i64 19, .int .i64 18, .int .i64 14, .int .i64 13, .int .i64 12, .int .i64 10, .int .i64 8, .int .i64 7]) w.heap.size 0 107 [.int .i64 24, .int .i64 23, .int .i64 21, .int .i64 19, .int .i64 18, .int .i64 14, .int .i64 13, .int .i64 12, .int .i64 10, .int .i64 8, .int .i64 7] _ (World.rangeAt_setCells_same wr w.heap.size 0 _ ht) Try.underlying107 rfl hrow
   have HR := Lib.hid hr; have HTH := Lib.hid ht; have H1 := Lib.hid h1; have HLV := Lib.hid hlv; have HRW := Lib.hid hrow
   clear hr ht h1 hlv hrow
   go_wp2_with (first | (refine wpList_load_mid rfl 107 (.tmp 2) rfl (w.heap.size + 1) 0 rfl [.int .i64 24, .int .i64 23, .int .i64 21, .int .i64 19, .int .i64 18, .int .i64 14, .int .i64 13, .int .i64 12, .int .i64 10, .int .i64 8, .int .i64 7] _ HR.out Try.underlying107 rfl HRW.out ?_) | (refine wpList_store_mid rfl 107 (.tmp 0) (.tmp 18) rfl w.heap.size 0 (([.int .i64 24, .int .i64 23, .int .i64 21, .int .i64 19, .int .i64 18, .int .i64 14, .int .i64 13, .int .i64 12, .int .i64 10, .int .i64 8, .int .i64 7] : List Value).toArray) rfl rfl HTH.out HRW.out H1.out ?_))
   refine bodyPost_ret (v := .tuple #[.agg tabV, .map (some (w.heap.size + 1 + 1))]) ?_ rfl ⟨_, rfl, by omega, ?_, ?_, ?_⟩
   ·
    simp [results, Try.results54, HLV.out, asAddr, tabV, Sem.run_bind, Sem.run_pure]
   ·
    exact HT.out.kept (Kept.setCells (S := fun k => k = w.heap.size) w.heap.size (.inl rfl) _ 0 wr (Kept.refl _ _)) (by omega)
   ·
    exact Below.setCells _ HSZ.out _ 0 _ HB.out
   ·
    exact Kept.setCells _ (.inr (Nat.le_refl _)) _ 0 _ HK.out
end Go.Proofs.Ytenhigpeafaidaa.Wire
-- Bb
namespace Go.Proofs.Ytenhigpeafaidaa.Wire
open Go.RowKit Go.Maps Go.Proofs.YtenhigpeafaidaaW.PrintWords Go.Proofs.YtenhigpeafaidaaW.PrintLast Go.Proofs.YtenhigpeafaidaaW.PrintMore
set_option linter.unusedVariables false
set_option linter.unusedSimpArgs false

/-- The blocks of a number of cleared channels in the table's first k rows, or 0. -/
def blk : Nat → Int → Int
 | 0, _ => 0
 | k + 1, n => if n = tabL.getD k 0 then 12 - (k : Int) else blk k n
theorem tab_isMap : ∀ k, IsMap (tabD k)
 | 0 => ⟨[], rfl⟩
 | k + 1 => by obtain ⟨es, h⟩ := tab_isMap k; simp only [tabD, h]; exact ⟨_, rfl⟩
theorem tab_atKey (n : Int) : ∀ k, (tabD k).atKey (.int .i64 n) (.lit (.int .i64 0)) = .lit (.int .i64 (blk k n))
 | 0 => rfl
 | k + 1 => by
  by_cases h : n = tabL.getD k 0
  ·
   unfold blk tabD
   rw [if_pos h, h]
   exact atKey_put_same (tab_isMap k) (by simp [WideAt.IsKeyLit]) _ _
  ·
   unfold blk tabD
   rw [if_neg h, atKey_put_other (by intro e; cases e; exact h rfl)]
   exact tab_atKey n k
def isTarget (n : Int) : Bool := decide (0 < blk 11 n)
theorem wf_of {n : Int} (h0 : -9223372036854775808 ≤ n) (h1 : n ≤ 9223372036854775807) : (Lit.int .i64 n).wf = true := by
 simp [Lit.wf]
 have e1 : IntKind.i64.min = -9223372036854775808 := by rfl
 have e2 : IntKind.i64.max = 9223372036854775807 := by rfl
 omega

theorem valid_calls (w0 w : World) (n : Int) (h0 : -9223372036854775808 ≤ n) (h1 : n ≤ 9223372036854775807) (hB : Below w0.heap.size w0 w) :
  Calls Try.prog 28 #[.agg #[.int .i64 n]] w (fun r w' => r = .returned (.bool (isTarget n)) ∧ Below w0.heap.size w0 w' ∧ Kept w w' (fun _ => False)) := by
 have HB := Lib.hid (below_alloc' hB (.cells #[.int .i64 n] 34))
 have HK := Lib.hid ((Kept.refl w (fun _ => False)).alloc (.cells #[.int .i64 n] 34))
 have hkey : keyOf Try.prog 3 (.int .i64 n) = some (.int .i64 n) := keyOf_int_mk Try.underlying3 (wf_of h0 h1)
 have hcell : (w.alloc (.cells #[.int .i64 n] 34)).cell? ⟨w.heap.size, 0, none⟩ = some (.int .i64 n) := (blk_cell (blk_new _ _) 0).trans rfl
 clear hB
 go_enter Try.func28, Try.ntmps28
 have HC := Lib.hid (show (w.alloc (.cells #[.int .i64 n] 34)).heap[w.heap.size]? = some (.cells #[.int .i64 n] 34 (0, 0)) from blk_new _ _)
 clear hcell
 go_wp2_with fail
 refine (table_calls w0 _ HB.out).mono ?_
 rintro r w1 ⟨b, rfl, hb, hT, hB1, hK1⟩
 have hcell : ∀ o, (w1.alloc o).cell? ⟨w.heap.size, 0, none⟩ = some (.int .i64 n) := fun o => (blk_cell (blk_alloc (blk_kept HC.out hK1 id) o) 0).trans rfl
 have HB1 := Lib.hid hB1
 have HK1 := Lib.hid (HK.out.then_ hK1 (fun _ h => h.elim))
 have hT1 : ∀ o, (w1.alloc o).ownsMap Try.prog 3 (plainElem Try.prog 3) b 11 (tabD 11) := fun o => World.ownsMap.alloc hT o
 clear hB1 hK1 hT HC HB HK
 unfold tabV
 go_wp2_with (first | (at_lookup; refine wpList_lookup_own_int _ rfl _ _ 108 rfl 3 3 .i64 mapLaw Try.underlying108 Try.underlying3 (mapZero _) b 11 _ rfl (hT1 _) _ _ rfl hkey ?_; intro c hat hwc; rw [tab_atKey] at hat; obtain rfl : blk 11 n = c := by simpa using hat))
 go_ret
 exact ⟨rfl, below_alloc' HB1.out _, HK1.out.alloc _⟩
end Go.Proofs.Ytenhigpeafaidaa.Wire
-- Bc
namespace Go.Proofs.Ytenhigpeafaidaa.Wire
open Go.RowKit Go.Maps Go.Proofs.YtenhigpeafaidaaW.PrintWords Go.Proofs.YtenhigpeafaidaaW.PrintLast Go.Proofs.YtenhigpeafaidaaW.PrintMore
set_option linter.unusedVariables false
set_option linter.unusedSimpArgs false

def spanV : Array Value := #[.int .i64 0, .int .i64 0, .int .i64 2, .int .i64 6, .int .i64 7, .int .i64 13, .int .i64 14, .int .i64 51]
set_option maxRecDepth 100000 in
theorem spans_calls (w0 w : World) (hB : Below w0.heap.size w0 w) :
  Calls Try.prog 38 #[] w (fun r w' => r = .returned (.agg spanV) ∧ Below w0.heap.size w0 w' ∧ Kept w w' (fun _ => False)) := by
 have HB := Lib.hid hB
 clear hB
 have hr : (w.alloc (.cells #[.int .i64 0, .int .i64 0, .int .i64 2, .int .i64 6, .int .i64 7, .int .i64 13, .int .i64 14, .int .i64 51] 81)).rangeAt w.heap.size 0 [.int .i64 0, .int .i64 0, .int .i64 2, .int .i64 6, .int .i64 7, .int .i64 13, .int .i64 14, .int .i64 51] := fun j v hv => by
  rw [Nat.zero_add, blk_cell (blk_new _ _) j, ← Array.getElem?_toList]; exact hv
 have hlv := run_loadVar_mid (P := Try.prog) (w.alloc (.cells #[.int .i64 0, .int .i64 0, .int .i64 2, .int .i64 6, .int .i64 7, .int .i64 13, .int .i64 14, .int .i64 51] 81)) w.heap.size 0 81 [.int .i64 0, .int .i64 0, .int .i64 2, .int .i64 6, .int .i64 7, .int .i64 13, .int .i64 14, .int .i64 51] _ hr Try.underlying81 rfl (by kernel_rfl)
 have HLV := Lib.hid hlv
 clear hlv hr
 go_enter Try.func38, Try.ntmps38
 go_wp2_with fail
 refine bodyPost_ret (v := .agg spanV) ?_ rfl ⟨rfl, below_alloc' HB.out _, (Kept.refl _ _).alloc _⟩
 simp [results, Try.results38, HLV.out, asAddr, spanV, Sem.run_bind, Sem.run_pure]

theorem span_index1 (W : World) : (Instr.index 81 (.agg #[.int .i64 0, .int .i64 0, .int .i64 2, .int .i64 6, .int .i64 7, .int .i64 13, .int .i64 14, .int .i64 51]) (.int .i64 1)).run Try.prog W = .ok (.agg #[.int .i64 2, .int .i64 6]) W := by kernel_rfl
theorem span_index2 (W : World) : (Instr.index 81 (.agg #[.int .i64 0, .int .i64 0, .int .i64 2, .int .i64 6, .int .i64 7, .int .i64 13, .int .i64 14, .int .i64 51]) (.int .i64 2)).run Try.prog W = .ok (.agg #[.int .i64 7, .int .i64 13]) W := by kernel_rfl
theorem span_index3 (W : World) : (Instr.index 81 (.agg #[.int .i64 0, .int .i64 0, .int .i64 2, .int .i64 6, .int .i64 7, .int .i64 13, .int .i64 14, .int .i64 51]) (.int .i64 3)).run Try.prog W = .ok (.agg #[.int .i64 14, .int .i64 51]) W := by kernel_rfl
theorem pair_index0 (W : World) : (Instr.index 80 (.agg #[.int .i64 14, .int .i64 51]) (.int .i64 0)).run Try.prog W = .ok (.int .i64 14) W := by kernel_rfl

/-- May a channel be assigned under a target? -/
def leftB (n c : Int) : Bool := decide (c < 14) || (decide (c ≤ 51 - n) && (c != 37))
set_option maxRecDepth 100000 in
theorem left_calls (w0 w : World) (c n : Int) (h0 : -1000 ≤ n) (h1 : n ≤ 1000) (hB : Below w0.heap.size w0 w) :
  Calls Try.prog 62 #[.int .i64 c, .agg #[.int .i64 n]] w (fun r w' => r = .returned (.bool (leftB n c)) ∧ Below w0.heap.size w0 w' ∧ Kept w w' (fun _ => False)) := by
 have HB := Lib.hid (below_alloc' hB (.cells #[.int .i64 n] 34))
 have HK := Lib.hid ((Kept.refl w (fun _ => False)).alloc (.cells #[.int .i64 n] 34))
 have HC := Lib.hid (show (w.alloc (.cells #[.int .i64 n] 34)).heap[w.heap.size]? = some (.cells #[.int .i64 n] 34 (0, 0)) from blk_new _ _)
 have hw1 : IntKind.i64.wrap (51 - n) = 51 - n := by rw [IntKind.wrap_i64]; omega
 have hix := span_index3
 have hiy := pair_index0
 clear hB
 by_cases a : c < 14
 ·
  have d1 : decide (c < 14) = true := decide_eq_true a
  have HR := Lib.hid (show leftB n c = true by unfold leftB; rw [d1]; rfl)
  clear a
  go_enter Try.func62, Try.ntmps62
  go_wp2_with (first | (go_at_call 38; refine (spans_calls w0 _ HB.out).mono ?_; rintro r w1 ⟨rfl, hB1, hK1⟩; have HB1 := Lib.hid hB1; have HK1 := Lib.hid (HK.out.then_ hK1 (fun _ h => h.elim)); have hcell : w1.cell? ⟨w.heap.size, 0, none⟩ = some (.int .i64 n) := (blk_cell (blk_kept HC.out hK1 id) 0).trans rfl; clear hB1 hK1; unfold spanV))
  go_ret
  exact ⟨by rw [HR.out]; rfl, HB1.out, HK1.out⟩
 ·
  have d1 : decide (c < 14) = false := decide_eq_false a
  clear a
  by_cases b : c ≤ 51 - n
  ·
   have d2 : decide (c ≤ 51 - n) = true := decide_eq_true b
   have HR := Lib.hid (show leftB n c = (c != 37) by unfold leftB; rw [d1, d2]; rfl)
   clear b
   go_enter Try.func62, Try.ntmps62
   go_wp2_with (first | (go_at_call 38; refine (spans_calls w0 _ HB.out).mono ?_; rintro r w1 ⟨rfl, hB1, hK1⟩; have HB1 := Lib.hid hB1; have HK1 := Lib.hid (HK.out.then_ hK1 (fun _ h => h.elim)); have hcell : w1.cell? ⟨w.heap.size, 0, none⟩ = some (.int .i64 n) := (blk_cell (blk_kept HC.out hK1 id) 0).trans rfl; clear hB1 hK1; unfold spanV))
   go_ret
   exact ⟨by rw [HR.out]; rfl, HB1.out, HK1.out⟩
  ·
   have d2 : decide (c ≤ 51 - n) = false := decide_eq_false b
   have HR := Lib.hid (show leftB n c = false by unfold leftB; rw [d1, d2]; rfl)
   clear b
   go_enter Try.func62, Try.ntmps62
   go_wp2_with (first | (go_at_call 38; refine (spans_calls w0 _ HB.out).mono ?_; rintro r w1 ⟨rfl, hB1, hK1⟩; have HB1 := Lib.hid hB1; have HK1 := Lib.hid (HK.out.then_ hK1 (fun _ h => h.elim)); have hcell : w1.cell? ⟨w.heap.size, 0, none⟩ = some (.int .i64 n) := (blk_cell (blk_kept HC.out hK1 id) 0).trans rfl; clear hB1 hK1; unfold spanV))
   go_ret
   exact ⟨by rw [HR.out]; rfl, HB1.out, HK1.out⟩

/-- A band's lowest and highest channel, and the error. -/
def loB (n : Int) : Int := if n = 1 then 2 else if n = 2 then 7 else if n = 3 then 14 else 0
def hiB (n : Int) : Int := if n = 1 then 6 else if n = 2 then 13 else if n = 3 then 51 else 0
def erB (n : Int) : Int := if 1 ≤ n ∧ n ≤ 3 then 0 else 2
set_option maxRecDepth 100000 in
theorem range_calls (w0 w : World) (n : Int) (hB : Below w0.heap.size w0 w) :
  Calls Try.prog 9 #[.int .i64 n] w (fun r w' => r = .returned (.tuple #[.int .i64 (loB n), .int .i64 (hiB n), .int .i64 (erB n)]) ∧ Below w0.heap.size w0 w' ∧ Kept w w' (fun _ => False)) := by
 have HB := Lib.hid hB
 clear hB
 by_cases a : n ≤ 0
 ·
  have d1 : decide (n ≤ 0) = true := decide_eq_true a
  have HR := Lib.hid (show loB n = 0 ∧ hiB n = 0 ∧ erB n = 2 by unfold loB hiB erB; refine ⟨?_, ?_, ?_⟩ <;> (repeat rw [if_neg (by omega)]))
  clear a
  go_enter Try.func9, Try.ntmps9
  go_wp2_with fail
  go_ret3
  exact ⟨by rw [HR.out.1, HR.out.2.1, HR.out.2.2]; rfl, HB.out, Kept.refl _ _⟩
 have d1 : decide (n ≤ 0) = false := decide_eq_false a
 by_cases b : 4 ≤ n
 ·
  have d2 : decide (4 ≤ n) = true := decide_eq_true b
  have HR := Lib.hid (show loB n = 0 ∧ hiB n = 0 ∧ erB n = 2 by unfold loB hiB erB; refine ⟨?_, ?_, ?_⟩ <;> (repeat rw [if_neg (by omega)]))
  clear a b
  go_enter Try.func9, Try.ntmps9
  go_wp2_with fail
  go_ret3
  exact ⟨by rw [HR.out.1, HR.out.2.1, HR.out.2.2]; rfl, HB.out, Kept.refl _ _⟩
 clear d1
 obtain rfl | rfl | rfl : n = 1 ∨ n = 2 ∨ n = 3 := by omega
 all_goals
  clear a b
  have hix1 := span_index1
  have hix2 := span_index2
  have hix3 := span_index3
  go_enter Try.func9, Try.ntmps9
  go_wp2_with (first | (go_at_call 38; refine (spans_calls w0 _ HB.out).mono ?_; rintro r w1 ⟨rfl, hB1, hK1⟩; have HB1 := Lib.hid hB1; have HK1 := Lib.hid hK1; clear hB1 hK1; unfold spanV))
  go_quiet (fail)
  go_wp2
  go_ret3
  exact ⟨rfl, pw_below_drewN (below_alloc' HB1.out _) nq, (HK1.out.alloc _).drewN nq⟩
end Go.Proofs.Ytenhigpeafaidaa.Wire
-- Bd
namespace Go.Proofs.Ytenhigpeafaidaa.Wire
open Go.RowKit Go.Maps Go.Proofs.YtenhigpeafaidaaW.PrintWords Go.Proofs.YtenhigpeafaidaaW.PrintLast Go.Proofs.YtenhigpeafaidaaW.PrintMore
set_option linter.unusedVariables false
set_option linter.unusedSimpArgs false

theorem filter_step (p : Int → Bool) (l : List Int) (k : Nat) (h : k < l.length) : (l.take (k + 1)).filter p = (l.take k).filter p ++ (if p (l.getD k 0) = true then [l.getD k 0] else []) := by
 rw [List.take_add_one, List.filter_append, List.getElem?_eq_getElem h]
 have e : l.getD k 0 = l[k] := by simp [List.getD, h]
 rw [e]
 cases hp : p l[k] <;> simp [List.filter, hp]

def AddPost (w0 w : World) (ok : Nat → Prop) (l : List Int) (r : Ending) (w' : World) : Prop :=
 ∃ v', r = .returned v' ∧ (Kd.int .i64).R 3 w' w0.heap.size (fun k => ok k ∨ w.heap.size ≤ k) v' l ∧ Below w0.heap.size w0 w' ∧ Kept w w' ok

set_option maxHeartbeats 1000000 in
theorem add_calls (w0 w : World) (v : Value) (xs ms : List Int) (ok : Nat → Prop) (n : Int) (A : Option Addr) (c : Nat) (h0 : -1000 ≤ n) (h1 : n ≤ 1000) (hB : Below w0.heap.size w0 w)
  (hO : (Kd.int .i64).R 3 w w0.heap.size ok v xs) (hC : (Kd.int .i64).C w A ms.length ms) (hl : xs.length + ms.length ≤ 1000000) (hap : Kept w w (fun _ => False) → ∀ W, Kept w W (fun k => ok k ∨ w.heap.size < k) → (Kd.int .i64).C W A ms.length ms) :
  Calls Try.prog 39 #[v, .agg #[.int .i64 n], .slice A ms.length c] w (AddPost w0 w ok (xs ++ ms.filter (leftB n))) := by
 have HB0 := Lib.hid (below_alloc' hB (.cells #[.int .i64 n] 34))
 have HSZ := Lib.hid hB.size
 have HG0 := Lib.hid (show (w.alloc (.cells #[.int .i64 n] 34)).heap[w.heap.size]? = some (.cells #[.int .i64 n] 34 (0, 0)) from blk_new _ _)
 have HK0 := Lib.hid ((Kept.refl w (fun k => (ok k ∧ k < w.heap.size) ∨ w.heap.size < k)).alloc (.cells #[.int .i64 n] 34))
 have HO0 := Lib.hid (Kd.R_alloc (Kd.R_mono (ok' := fun k => (ok k ∧ k < w.heap.size) ∨ w.heap.size < k) (Kd.R_bound hO) (fun _ h => .inl ⟨h.1, h.2.2.1⟩)) (.cells #[.int .i64 n] 34))
 have HAP := Lib.hid (fun W (hk : Kept w W (fun k => (ok k ∧ k < w.heap.size) ∨ w.heap.size < k)) => hap (Kept.refl _ _) W (hk.mono (fun _ h => h.elim (fun h => .inl h.1) .inr)))
 clear hB hO hC hap
 go_enter Try.func39, Try.ntmps39
 go_wp2_with fail
 go_loopg [0, 11] ms.length (fun g v0 v11 w' => ∃ k : Nat, v11 = .int .i64 k ∧ k ≤ ms.length ∧ Aside0 (g + k = ms.length) ∧ Aside0 ((Kd.int .i64).R 3 w' w0.heap.size (fun k => (ok k ∧ k < w.heap.size) ∨ w.heap.size < k) v0 (xs ++ (ms.take k).filter (leftB n))) ∧
  Aside0 (Kept w w' (fun k => (ok k ∧ k < w.heap.size) ∨ w.heap.size < k)) ∧ Aside0 (Below w0.heap.size w0 w') ∧ Aside0 (w'.heap[w.heap.size]? = some (.cells #[.int .i64 n] 34 (0, 0))))
 case atStart => exact ⟨0, rfl, Nat.zero_le _, ⟨rfl⟩, ⟨by simpa using HO0.out⟩, ⟨HK0.out⟩, ⟨HB0.out⟩, ⟨HG0.out⟩⟩
 case round =>
  obtain ⟨k, rfl, hk, HM, HO, HK, HB, HG⟩ := hrel
  by_cases h : k < ms.length
  ·
   have q1 : decide ((k : Int) < (ms.length : Int)) = true := decide_eq_true (by omega)
   obtain ⟨ad, hA, hcell⟩ := C_at (HAP.out _ HK.out) k h
   subst hA
   have hg : wr.cell? ⟨w.heap.size, 0, none⟩ = some (.int .i64 n) := (blk_cell HG.out 0).trans rfl
   have HF := Lib.hid (show xs ++ (ms.take (k + 1)).filter (leftB n) = (xs ++ (ms.take k).filter (leftB n)) ++ (if leftB n (ms.getD k 0) = true then [ms.getD k 0] else []) by rw [filter_step (leftB n) ms k h, List.append_assoc])
   have HLN := Lib.hid (show (xs ++ (ms.take k).filter (leftB n)).length + 1 ≤ 1000000 by
    have := List.length_filter_le (leftB n) (ms.take k)
    rw [List.length_take] at this; rw [List.length_append]; omega)
   generalize ms.getD k 0 = x at hcell HF
   generalize xs ++ (ms.take k).filter (leftB n) = L at HO HF HLN
   have HLC := Lib.hid (left_calls w0 wr x n h0 h1 HB.out)
   obtain ⟨b, hb⟩ : ∃ b, leftB n x = b := ⟨_, rfl⟩
   rw [hb] at HF HLC
   clear hb
   cases b with
   | true =>
    obtain ⟨Au, cu, hu⟩ := Kd.R_slice HO.out
    subst hu
    go_wp2_with (first | (go_at_call 62; refine HLC.out.mono ?_; rintro r w2 ⟨rfl, hB2, hK2⟩; have HB2 := Lib.hid hB2; have HK2 := Lib.hid hK2; have HO2 := Lib.hid (Kd.R_kept HO.out hK2 (fun _ _ => id)); clear hB2 hK2) | ((with_reducible refine gate_builtin (b := .append) (xs := #[.tmp 18, .tmp 20]) rfl ?_); at_builtin; (refine Kd.R_append (Kd.int .i64) (w0 := w0) w0.heap.size rfl (.tmp 18) (.tmp 20) 30 3 (.int .i64 0) 8 rfl Try.underlying30 infoI rfl (by decide) (by omega) (.slice Au L.length cu) L x [.int .i64 x] (fun k => (ok k ∧ k < w.heap.size) ∨ w.heap.size < k) (fun _ => False) rfl rfl ?aP (fun _ hk => hk.elim) ?aF ?aO ?aB ?aS ?aL ?_; (case aP => exact rfl); (case aB => exact (by repeat (first | (with_reducible first | exact HB2.out | apply below_alloc | apply pw_below_drewN | apply below_drew1) | exact HB2.out))); (case aF => exact (fun k hk => .inr (by have := HK2.out.1; have := blk_lt HG.out; omega))); (case aO => first | exact HO2.out | exact (by (with_reducible repeat (first | apply Kd.R_alloc | apply Kd.R_drewN | apply Kd.R_drew)); exact HO2.out)); (case aS => exact (below_size (by repeat (first | (with_reducible first | exact HB2.out | apply below_alloc | apply pw_below_drewN | apply below_drew1) | exact HB2.out)))); (case aL => exact (by have := HLN.out; omega)); intro v1 w1 hO1 hB1 hG1 hA1; have HO1 := Lib.hid hO1; have HB1 := Lib.hid hB1; have HG1 := Lib.hid hG1; clear hO1 hB1 hG1 hA1)))
    have HK3 := Lib.hid (Kept.of_grown HG1.out (Kept.refl _ (fun k => (ok k ∧ k < w.heap.size) ∨ w.heap.size < k)) (fun k hk => .inl (HO2.out.1 k hk)))
    go_roundg (ms.length - (k + 1))
    case measure => have := HM.out; omega
    case rel => exact ⟨k + 1, by go_num, by omega, ⟨by omega⟩, ⟨by rw [HF.out]; simpa using HO1.out⟩, ⟨(HK.out.then_ HK2.out (fun _ h => h.elim)).then_ (HK3.out) (fun _ h => .inl h)⟩, ⟨HB1.out⟩, ⟨blk_kept (blk_kept HG.out HK2.out id) HK3.out (fun h => h.elim (fun h => absurd h.2 (Nat.lt_irrefl _)) (Nat.lt_irrefl _))⟩⟩
   | false =>
    go_wp2_with (first | (go_at_call 62; refine HLC.out.mono ?_; rintro r w2 ⟨rfl, hB2, hK2⟩; have HB2 := Lib.hid hB2; have HK2 := Lib.hid hK2; have HO2 := Lib.hid (Kd.R_kept HO.out hK2 (fun _ _ => id)); clear hB2 hK2))
    go_roundg (ms.length - (k + 1))
    case measure => have := HM.out; omega
    case rel => exact ⟨k + 1, by go_num, by omega, ⟨by omega⟩, ⟨by rw [HF.out]; simpa using HO2.out⟩, ⟨HK.out.then_ HK2.out (fun _ h => h.elim)⟩, ⟨HB2.out⟩, ⟨blk_kept HG.out HK2.out id⟩⟩
  ·
   have q1 : decide ((k : Int) < (ms.length : Int)) = false := decide_eq_false (by omega)
   have e : ms.take k = ms := List.take_of_length_le (by omega)
   have ho := HO.out
   rw [e] at ho
   have HO1 := Lib.hid ho
   clear ho e HO
   go_wp2_with fail
   go_ret
   exact ⟨_, rfl, Kd.R_mono HO1.out (fun k h => h.elim (fun h => .inl h.1) (fun h => .inr (Nat.le_of_lt h))), HB.out, ⟨HK.out.1, fun i hi hn => HK.out.2 i hi (fun h => h.elim (fun h => hn h.1) (fun h => by omega))⟩⟩

/-- The channels of a band under a target. -/
def rangeI (lo hi : Int) : List Int := (List.range (hi - lo + 1).toNat).map (fun (k : Nat) => lo + (k : Int))
def chansB (b n : Int) : List Int := (rangeI (loB b) (hiB b)).filter (leftB n)
def ChanPost (w0 w : World) (b n : Int) (r : Ending) (w' : World) : Prop :=
 ∃ v', r = .returned (.tuple #[v', .int .i64 (if erB b = 0 ∧ isTarget n = true then 0 else 2)]) ∧ (Kd.int .i64).R 3 w' w0.heap.size (fun k => w.heap.size ≤ k) v' (if erB b = 0 ∧ isTarget n = true then chansB b n else []) ∧ Below w0.heap.size w0 w' ∧ Kept w w' (fun _ => False)
theorem filter_one (p : Int → Bool) (c : Int) : [c].filter p = if p c = true then [c] else [] := by cases h : p c <;> simp [List.filter, h]
theorem rangeI_len (lo hi : Int) : (rangeI lo hi).length = (hi - lo + 1).toNat := by simp [rangeI]
theorem rangeI_at (lo hi : Int) (k : Nat) (h : k < (rangeI lo hi).length) : (rangeI lo hi).getD k 0 = lo + (k : Int) := by
 have h2 : k < (hi - lo + 1).toNat := by rw [rangeI_len] at h; exact h
 simp [rangeI, List.getD, h2]
theorem band_bounds {b : Int} (h : 1 ≤ b ∧ b ≤ 3) : 2 ≤ loB b ∧ loB b ≤ hiB b ∧ hiB b ≤ 51 := by
 obtain rfl | rfl | rfl : b = 1 ∨ b = 2 ∨ b = 3 := by omega
 all_goals decide
theorem target_small {n : Int} (h : isTarget n = true) : 7 ≤ n ∧ n ≤ 24 := by
 simp only [isTarget, blk, tabL, List.getD_cons_succ, List.getD_cons_zero, decide_eq_true_eq] at h
 repeat (split at h; · omega)
 omega

set_option maxHeartbeats 1000000 in
theorem channels_calls (w0 w : World) (b n : Int) (h0 : -9223372036854775808 ≤ n) (h1 : n ≤ 9223372036854775807) (hB : Below w0.heap.size w0 w) :
  Calls Try.prog 13 #[.int .i64 b, .agg #[.int .i64 n]] w (ChanPost w0 w b n) := by
 have HB := Lib.hid (below_alloc' hB (.cells #[.int .i64 n] 34))
 have HK := Lib.hid ((Kept.refl w (fun _ => False)).alloc (.cells #[.int .i64 n] 34))
 have HG := Lib.hid (show (w.alloc (.cells #[.int .i64 n] 34)).heap[w.heap.size]? = some (.cells #[.int .i64 n] 34 (0, 0)) from blk_new _ _)
 clear hB
 by_cases hb : 1 ≤ b ∧ b ≤ 3
 ·
  have he : erB b = 0 := by unfold erB; rw [if_pos hb]
  have HE := Lib.hid he
  cases ht : isTarget n with
  | false =>
   have HT := Lib.hid ht
   clear hb he ht
   go_enter Try.func13, Try.ntmps13
   go_wp2_with fail
   refine (range_calls w0 _ b HB.out).mono ?_
   rintro r w1 ⟨rfl, hB1, hK1⟩
   rw [HE.out]
   have hcell : w1.cell? ⟨w.heap.size, 0, none⟩ = some (.int .i64 n) := (blk_cell (blk_kept HG.out hK1 id) 0).trans rfl
   have HB1 := Lib.hid hB1; have HK1 := Lib.hid (HK.out.then_ hK1 (fun _ h => h.elim))
   clear hB1 hK1
   go_wp2_with fail
   refine (valid_calls w0 _ n h0 h1 HB1.out).mono ?_
   rintro r w2 ⟨rfl, hB2, hK2⟩
   rw [HT.out]
   have HB2 := Lib.hid hB2; have HK2 := Lib.hid (HK1.out.then_ hK2 (fun _ h => h.elim))
   clear hB2 hK2 hcell
   go_wp2_with fail
   go_ret2
   exact ⟨_, by rw [if_neg (by rw [HT.out]; simp)]; rfl, by rw [if_neg (by rw [HT.out]; simp)]; exact Kd.R_nil _ _ _ _ _, HB2.out, HK2.out⟩
  | true =>
   have HT := Lib.hid ht
   have hbd := band_bounds hb
   have hts := target_small ht
   have HCH := Lib.hid (show chansB b n = (rangeI (loB b) (hiB b)).filter (leftB n) from rfl)
   have HRG := Lib.hid (range_calls w0 _ b HB.out)
   rw [he] at HRG
   generalize loB b = lo at hbd HCH HRG
   generalize hiB b = hi at hbd HCH HRG
   have HLL := Lib.hid (rangeI_len lo hi)
   have HRA := Lib.hid (rangeI_at lo hi)
   obtain ⟨Lr, hLr⟩ : ∃ L, rangeI lo hi = L := ⟨_, rfl⟩
   rw [hLr] at HCH HLL HRA
   have hln : (Lr.length : Int) = hi - lo + 1 := by rw [HLL.out]; omega
   clear hb he ht hLr HLL
   go_enter Try.func13, Try.ntmps13
   go_wp2_with fail
   refine HRG.out.mono ?_
   rintro r w1 ⟨rfl, hB1, hK1⟩
   have hcell : w1.cell? ⟨w.heap.size, 0, none⟩ = some (.int .i64 n) := (blk_cell (blk_kept HG.out hK1 id) 0).trans rfl
   have HG1 := Lib.hid (blk_kept HG.out hK1 id)
   have HB1 := Lib.hid hB1; have HK1 := Lib.hid (HK.out.then_ hK1 (fun _ h => h.elim))
   clear hB1 hK1 HRG HG
   go_wp2_with fail
   refine (valid_calls w0 _ n h0 h1 HB1.out).mono ?_
   rintro r w2 ⟨rfl, hB2, hK2⟩
   rw [HT.out]
   have HG2 := Lib.hid (blk_kept HG1.out hK2 id)
   have HB2 := Lib.hid hB2; have HK2 := Lib.hid (HK1.out.then_ hK2 (fun _ h => h.elim))
   clear hB2 hK2 hcell HG1 HB1 HK1
   go_wp2_with fail
   go_loopg [9, 10] Lr.length (fun g v9 v10 w' => ∃ k : Nat, v10 = .int .i64 (lo + (k : Int)) ∧ k ≤ Lr.length ∧ Aside0 (g + k = Lr.length) ∧ Aside0 ((Kd.int .i64).R 3 w' w0.heap.size (fun k => w.heap.size < k) v9 ((Lr.take k).filter (leftB n))) ∧
    Aside0 (Kept w w' (fun _ => False)) ∧ Aside0 (Below w0.heap.size w0 w') ∧ Aside0 (w'.heap[w.heap.size]? = some (.cells #[.int .i64 n] 34 (0, 0))))
   case atStart => exact ⟨0, by simp, Nat.zero_le _, ⟨rfl⟩, ⟨by simpa using Kd.R_nil _ _ _ _ _⟩, ⟨HK2.out⟩, ⟨HB2.out⟩, ⟨HG2.out⟩⟩
   case round =>
    obtain ⟨k, rfl, hk, HM, HO, HKr, HBr, HGr⟩ := hrel
    by_cases h : k < Lr.length
    ·
     have q1 : decide (lo + (k : Int) ≤ hi) = true := decide_eq_true (by omega)
     have hg : wr.cell? ⟨w.heap.size, 0, none⟩ = some (.int .i64 n) := (blk_cell HGr.out 0).trans rfl
     have hga : ∀ o, (wr.alloc o).cell? ⟨w.heap.size, 0, none⟩ = some (.int .i64 n) := fun o => (blk_cell (blk_alloc HGr.out o) 0).trans rfl
     have HF := Lib.hid (show (Lr.take (k + 1)).filter (leftB n) = (Lr.take k).filter (leftB n) ++ [lo + (k : Int)].filter (leftB n) by rw [filter_step (leftB n) Lr k h, HRA.out k h, filter_one])
     have HLN := Lib.hid (show ((Lr.take k).filter (leftB n)).length + 1 ≤ 1000000 by
      have := List.length_filter_le (leftB n) (Lr.take k)
      rw [List.length_take] at this; omega)
     have hwr := blk_lt HGr.out
     have hw1 : IntKind.i64.wrap (lo + (k : Int) + 1) = lo + (k : Int) + 1 := by rw [IntKind.wrap_i64]; omega
     have HAC := Lib.hid (add_calls w0 (wr.alloc (.cells #[.int .i64 (lo + (k : Int))] 3)) u9 _ [lo + (k : Int)] (fun k => w.heap.size < k ∧ k < wr.heap.size) n (some ⟨wr.heap.size, 0, none⟩) 1 (by omega) (by omega) (below_alloc' HBr.out _)
      (Kd.R_alloc (Kd.R_mono (Kd.R_bound HO.out) (fun _ h => ⟨h.1, h.2.2.1⟩)) _) (C_blk (blk_new _ _) [lo + (k : Int)] rfl (by simp)) (by have := HLN.out; simpa using this)
      (fun _ W hW => C_blk (blk_kept (blk_new _ _) hW (by simp)) [lo + (k : Int)] rfl (by simp)))
     go_wp2_with fail
     refine HAC.out.mono ?_
     rintro r w3 ⟨v3, rfl, hO, hB, hK⟩
     have HO3 := Lib.hid (Kd.R_mono (ok' := fun k => w.heap.size < k) hO (fun k h => h.elim (fun h => h.1) (fun h => by simp at h; omega)))
     have HB3 := Lib.hid hB
     have HK3 := Lib.hid ((HKr.out.alloc (.cells #[.int .i64 (lo + (k : Int))] 3)).then_ hK (fun k h => .inr (Nat.le_of_lt h.1)))
     have HG3 := Lib.hid (blk_kept (blk_alloc HGr.out _) hK (fun h => Nat.lt_irrefl _ h.1))
     clear hO hB hK HAC
     go_wp2_with fail
     go_roundg (Lr.length - (k + 1))
     case measure => have := HM.out; omega
     case rel => exact ⟨k + 1, by congr 1; omega, by omega, ⟨by omega⟩, ⟨by rw [HF.out]; exact HO3.out⟩, ⟨HK3.out⟩, ⟨HB3.out⟩, ⟨HG3.out⟩⟩
    ·
     have q1 : decide (lo + (k : Int) ≤ hi) = false := decide_eq_false (by omega)
     have e : Lr.take k = Lr := List.take_of_length_le (by omega)
     have ho := HO.out
     rw [e] at ho
     have HO1 := Lib.hid ho
     clear ho e HO
     go_wp2_with fail
     go_ret2
     exact ⟨_, by rw [if_pos ⟨HE.out, HT.out⟩]; rfl, by rw [if_pos ⟨HE.out, HT.out⟩, HCH.out]; exact Kd.R_mono HO1.out (fun k h => Nat.le_of_lt h), HBr.out, HKr.out⟩
 ·
  have he : erB b = 2 := by unfold erB; rw [if_neg hb]
  have HE := Lib.hid he
  clear hb he
  go_enter Try.func13, Try.ntmps13
  go_wp2_with fail
  refine (range_calls w0 _ b HB.out).mono ?_
  rintro r w1 ⟨rfl, hB1, hK1⟩
  rw [HE.out]
  have HB1 := Lib.hid hB1; have HK1 := Lib.hid (HK.out.then_ hK1 (fun _ h => h.elim))
  clear hB1 hK1
  go_wp2_with fail
  go_ret2
  exact ⟨_, by rw [if_neg (by rw [HE.out]; simp)]; rfl, by rw [if_neg (by rw [HE.out]; simp)]; exact Kd.R_nil _ _ _ _ _, HB1.out, HK1.out⟩
end Go.Proofs.Ytenhigpeafaidaa.Wire
-- Be
namespace Go.Proofs.Ytenhigpeafaidaa.Wire
open Go.RowKit Go.Maps Go.Proofs.YtenhigpeafaidaaW.PrintWords Go.Proofs.YtenhigpeafaidaaW.PrintLast Go.Proofs.YtenhigpeafaidaaW.PrintMore
set_option linter.unusedVariables false
set_option linter.unusedSimpArgs false

/-- The band of a channel, or 0. -/
def ofB (c : Int) : Int := if 2 ≤ c ∧ c ≤ 6 then 1 else if 7 ≤ c ∧ c ≤ 13 then 2 else if 14 ≤ c ∧ c ≤ 51 then 3 else 0
def OfPost (w0 w : World) (v : Int) (r : Ending) (w' : World) : Prop := r = .returned (.tuple #[.int .i64 v, .int .i64 (if v = 0 then 2 else 0)]) ∧ Below w0.heap.size w0 w' ∧ Kept w w' (fun _ => False)
theorem OfPost.mk {w0 w w' : World} {v a e : Int} (h : v = a) (he : e = if a = 0 then 2 else 0) (hB : Below w0.heap.size w0 w') (hK : Kept w w' (fun _ => False)) : OfPost w0 w v (.returned (.tuple #[.int .i64 a, .int .i64 e])) w' := ⟨by rw [h, he], hB, hK⟩
theorem span_index0 (W : World) : (Instr.index 81 (.agg #[.int .i64 0, .int .i64 0, .int .i64 2, .int .i64 6, .int .i64 7, .int .i64 13, .int .i64 14, .int .i64 51]) (.int .i64 0)).run Try.prog W = .ok (.agg #[.int .i64 0, .int .i64 0]) W := by kernel_rfl
set_option maxHeartbeats 4000000 in
set_option maxRecDepth 100000 in
theorem bandOf_calls (w0 w : World) (c : Int) (hB : Below w0.heap.size w0 w) : Calls Try.prog 10 #[.int .i64 c] w (OfPost w0 w (ofB c)) := by
 have HS := Lib.hid (spans_calls w0 w hB)
 obtain ⟨v, hv⟩ : ∃ v, ofB c = v := ⟨_, rfl⟩
 rw [hv]
 have HV := Lib.hid hv
 clear hB hv
 go_enter Try.func10, Try.ntmps10
 go_wp2_with fail
 refine HS.out.mono ?_
 rintro r w1 ⟨rfl, hB1, hK1⟩
 have HB1 := Lib.hid hB1; have HK1 := Lib.hid hK1
 clear hB1 hK1
 unfold spanV
 go_wp2_with fail
 go_loopg [7] 4 (fun g v7 w' => ∃ k : Nat, v7 = .int .i64 k ∧ k ≤ 4 ∧ Aside0 (g + k = 4) ∧ Aside0 ((2 ≤ k → ¬ (2 ≤ c ∧ c ≤ 6)) ∧ (3 ≤ k → ¬ (7 ≤ c ∧ c ≤ 13)) ∧ (4 ≤ k → ¬ (14 ≤ c ∧ c ≤ 51))) ∧ Aside0 (Below w0.heap.size w0 w') ∧ Aside0 (Kept w w' (fun _ => False)))
 case atStart => exact ⟨0, rfl, by omega, ⟨rfl⟩, ⟨by omega, by omega, by omega⟩, ⟨HB1.out⟩, ⟨HK1.out⟩⟩
 case round =>
  obtain ⟨k, rfl, hk, HM, HN, HB, HK⟩ := hrel
  have hix0 := span_index0; have hix1 := span_index1; have hix2 := span_index2; have hix3 := span_index3
  obtain rfl | rfl | rfl | rfl | rfl : k = 0 ∨ k = 1 ∨ k = 2 ∨ k = 3 ∨ k = 4 := by omega
  ·
   go_wp2_with fail
   go_roundg 3
   case measure => have := HM.out; omega
   case rel => exact ⟨1, by go_num, by omega, ⟨by omega⟩, ⟨by omega, by omega, by omega⟩, ⟨below_alloc' HB.out _⟩, ⟨HK.out.alloc _⟩⟩
  ·
   by_cases a : 2 ≤ c
   ·
    have d1 : decide (2 ≤ c) = true := decide_eq_true a
    by_cases b : c ≤ 6
    ·
     have d2 : decide (c ≤ 6) = true := decide_eq_true b
     have HR := Lib.hid (show v = 1 by rw [← HV.out]; unfold ofB; rw [if_pos ⟨a, b⟩])
     clear a b
     go_wp2_with fail
     go_ret2
     exact OfPost.mk HR.out rfl (below_alloc' HB.out _) (HK.out.alloc _)
    ·
     have d2 : decide (c ≤ 6) = false := decide_eq_false b
     have HQ := Lib.hid (show ¬ (2 ≤ c ∧ c ≤ 6) from fun h => b h.2)
     clear a b
     go_wp2_with fail
     go_roundg 2
     case measure => have := HM.out; omega
     case rel => exact ⟨2, by go_num, by omega, ⟨by omega⟩, ⟨fun _ => HQ.out, by omega, by omega⟩, ⟨below_alloc' HB.out _⟩, ⟨HK.out.alloc _⟩⟩
   ·
    have d1 : decide (2 ≤ c) = false := decide_eq_false a
    have HQ := Lib.hid (show ¬ (2 ≤ c ∧ c ≤ 6) from fun h => a h.1)
    clear a
    go_wp2_with fail
    go_roundg 2
    case measure => have := HM.out; omega
    case rel => exact ⟨2, by go_num, by omega, ⟨by omega⟩, ⟨fun _ => HQ.out, by omega, by omega⟩, ⟨below_alloc' HB.out _⟩, ⟨HK.out.alloc _⟩⟩
  ·
   have HN1 := Lib.hid (HN.out.1 (by omega))
   by_cases a : 7 ≤ c
   ·
    have d1 : decide (7 ≤ c) = true := decide_eq_true a
    by_cases b : c ≤ 13
    ·
     have d2 : decide (c ≤ 13) = true := decide_eq_true b
     have HR := Lib.hid (show v = 2 by rw [← HV.out]; unfold ofB; rw [if_neg HN1.out, if_pos ⟨a, b⟩])
     clear a b
     go_wp2_with fail
     go_ret2
     exact OfPost.mk HR.out rfl (below_alloc' HB.out _) (HK.out.alloc _)
    ·
     have d2 : decide (c ≤ 13) = false := decide_eq_false b
     have HQ := Lib.hid (show ¬ (7 ≤ c ∧ c ≤ 13) from fun h => b h.2)
     clear a b
     go_wp2_with fail
     go_roundg 1
     case measure => have := HM.out; omega
     case rel => exact ⟨3, by go_num, by omega, ⟨by omega⟩, ⟨fun _ => HN1.out, fun _ => HQ.out, by omega⟩, ⟨below_alloc' HB.out _⟩, ⟨HK.out.alloc _⟩⟩
   ·
    have d1 : decide (7 ≤ c) = false := decide_eq_false a
    have HQ := Lib.hid (show ¬ (7 ≤ c ∧ c ≤ 13) from fun h => a h.1)
    clear a
    go_wp2_with fail
    go_roundg 1
    case measure => have := HM.out; omega
    case rel => exact ⟨3, by go_num, by omega, ⟨by omega⟩, ⟨fun _ => HN1.out, fun _ => HQ.out, by omega⟩, ⟨below_alloc' HB.out _⟩, ⟨HK.out.alloc _⟩⟩
  ·
   have HN1 := Lib.hid (HN.out.1 (by omega))
   have HN2 := Lib.hid (HN.out.2.1 (by omega))
   by_cases a : 14 ≤ c
   ·
    have d1 : decide (14 ≤ c) = true := decide_eq_true a
    by_cases b : c ≤ 51
    ·
     have d2 : decide (c ≤ 51) = true := decide_eq_true b
     have HR := Lib.hid (show v = 3 by rw [← HV.out]; unfold ofB; rw [if_neg HN1.out, if_neg HN2.out, if_pos ⟨a, b⟩])
     clear a b
     go_wp2_with fail
     go_ret2
     exact OfPost.mk HR.out rfl (below_alloc' HB.out _) (HK.out.alloc _)
    ·
     have d2 : decide (c ≤ 51) = false := decide_eq_false b
     have HQ := Lib.hid (show ¬ (14 ≤ c ∧ c ≤ 51) from fun h => b h.2)
     clear a b
     go_wp2_with fail
     go_roundg 0
     case measure => have := HM.out; omega
     case rel => exact ⟨4, by go_num, by omega, ⟨by omega⟩, ⟨fun _ => HN1.out, fun _ => HN2.out, fun _ => HQ.out⟩, ⟨below_alloc' HB.out _⟩, ⟨HK.out.alloc _⟩⟩
   ·
    have d1 : decide (14 ≤ c) = false := decide_eq_false a
    have HQ := Lib.hid (show ¬ (14 ≤ c ∧ c ≤ 51) from fun h => a h.1)
    clear a
    go_wp2_with fail
    go_roundg 0
    case measure => have := HM.out; omega
    case rel => exact ⟨4, by go_num, by omega, ⟨by omega⟩, ⟨fun _ => HN1.out, fun _ => HN2.out, fun _ => HQ.out⟩, ⟨below_alloc' HB.out _⟩, ⟨HK.out.alloc _⟩⟩
  ·
   have HR := Lib.hid (show v = 0 by rw [← HV.out]; unfold ofB; rw [if_neg (HN.out.1 (by omega)), if_neg (HN.out.2.1 (by omega)), if_neg (HN.out.2.2 (by omega))])
   go_wp2_with fail
   go_ret2
   exact OfPost.mk HR.out rfl HB.out HK.out

/-! Blocks -/
theorem tab_has (n : Int) : ∀ k, k ≤ 11 → Maps.has (tabD k) (.int .i64 n) = decide (0 < blk k n)
 | 0, _ => rfl
 | k + 1, hk => by
  by_cases h : n = tabL.getD k 0
  ·
   unfold blk tabD
   rw [if_pos h, h, has_put_same (tab_isMap k) (by simp [WideAt.IsKeyLit]), decide_eq_true (by omega)]
  ·
   unfold blk tabD
   rw [if_neg h, has_put_other (by intro e; cases e; exact h rfl)]
   exact tab_has n k (by omega)
def BlkPost (w0 w : World) (n : Int) (r : Ending) (w' : World) : Prop := r = .returned (.tuple #[.int .i64 (if isTarget n = true then blk 11 n else 0), .int .i64 (if isTarget n = true then 0 else 2)]) ∧ Below w0.heap.size w0 w' ∧ Kept w w' (fun _ => False)
set_option maxHeartbeats 4000000 in
set_option maxRecDepth 100000 in
theorem blocks_calls (w0 w : World) (n : Int) (h0 : -9223372036854775808 ≤ n) (h1 : n ≤ 9223372036854775807) (hB : Below w0.heap.size w0 w) :
  Calls Try.prog 26 #[.agg #[.int .i64 n]] w (BlkPost w0 w n) := by
 have HB := Lib.hid (below_alloc' hB (.cells #[.int .i64 n] 34))
 have HK := Lib.hid ((Kept.refl w (fun _ => False)).alloc (.cells #[.int .i64 n] 34))
 have hkey : keyOf Try.prog 3 (.int .i64 n) = some (.int .i64 n) := keyOf_int_mk Try.underlying3 (wf_of h0 h1)
 have HC := Lib.hid (show (w.alloc (.cells #[.int .i64 n] 34)).heap[w.heap.size]? = some (.cells #[.int .i64 n] 34 (0, 0)) from blk_new _ _)
 have HT := Lib.hid (table_calls w0 _ HB.out)
 clear hB h0 h1
 cases ht : isTarget n with
 | true =>
  have HI := Lib.hid ht
  have hh : Maps.has (tabD 11) (Lit.int .i64 n) = true := by rw [tab_has n 11 (Nat.le_refl _)]; exact ht
  clear ht
  go_enter Try.func26, Try.ntmps26
  go_wp2_with fail
  refine HT.out.mono ?_
  rintro r w1 ⟨b, rfl, hb, hT, hB1, hK1⟩
  have hcell : ∀ o, (w1.alloc o).cell? ⟨w.heap.size, 0, none⟩ = some (.int .i64 n) := fun o => (blk_cell (blk_alloc (blk_kept HC.out hK1 id) o) 0).trans rfl
  have HB1 := Lib.hid hB1
  have HK1 := Lib.hid (HK.out.then_ hK1 (fun _ h => h.elim))
  have hT1 : ∀ o, (w1.alloc o).ownsMap Try.prog 3 (plainElem Try.prog 3) b 11 (tabD 11) := fun o => World.ownsMap.alloc hT o
  clear hB1 hK1 hT HC HB HK HT
  unfold tabV
  go_wp2_with (first | (at_lookup; refine wpList_lookup_own_ok_int _ rfl _ _ 108 rfl 3 3 .i64 mapLaw Try.underlying108 Try.underlying3 (mapZero _) b 11 _ rfl (hT1 _) _ _ rfl hkey ?_; intro c hat hwc; rw [tab_atKey] at hat; obtain rfl : blk 11 n = c := by simpa using hat))
  go_ret2
  exact ⟨by rw [HI.out]; rfl, below_alloc' HB1.out _, HK1.out.alloc _⟩
 | false =>
  have HI := Lib.hid ht
  have hh : Maps.has (tabD 11) (Lit.int .i64 n) = false := by rw [tab_has n 11 (Nat.le_refl _)]; exact ht
  clear ht
  go_enter Try.func26, Try.ntmps26
  go_wp2_with fail
  refine HT.out.mono ?_
  rintro r w1 ⟨b, rfl, hb, hT, hB1, hK1⟩
  have hcell : ∀ o, (w1.alloc o).cell? ⟨w.heap.size, 0, none⟩ = some (.int .i64 n) := fun o => (blk_cell (blk_alloc (blk_kept HC.out hK1 id) o) 0).trans rfl
  have HB1 := Lib.hid hB1
  have HK1 := Lib.hid (HK.out.then_ hK1 (fun _ h => h.elim))
  have hT1 : ∀ o, (w1.alloc o).ownsMap Try.prog 3 (plainElem Try.prog 3) b 11 (tabD 11) := fun o => World.ownsMap.alloc hT o
  clear hB1 hK1 hT HC HB HK HT
  unfold tabV
  go_wp2_with (first | (at_lookup; refine wpList_lookup_own_ok_int _ rfl _ _ 108 rfl 3 3 .i64 mapLaw Try.underlying108 Try.underlying3 (mapZero _) b 11 _ rfl (hT1 _) _ _ rfl hkey ?_; intro c hat hwc; rw [tab_atKey] at hat; obtain rfl : blk 11 n = c := by simpa using hat))
  go_ret2
  exact ⟨by rw [HI.out]; rfl, below_alloc' HB1.out _, HK1.out.alloc _⟩
end Go.Proofs.Ytenhigpeafaidaa.Wire
-- Qx0
-- Printed by a program of this session's over the kit's printer, with functions given from outside. Lean checks it.
namespace Go.Proofs.Ytenhigpeafaidaa.Q
open Go.RowKit Go.Proofs.YtenhigpeafaidaaW.PrintWords Go.Proofs.YtenhigpeafaidaaW.PrintLast Go.Proofs.YtenhigpeafaidaaW.PrintMore
attribute [local go_sem] max2_int min2_int max_two min_two max_three min_three max_four min_four   -- for this text's walks alone
set_option linter.unusedVariables false
set_option linter.unusedSimpArgs false

end Go.Proofs.Ytenhigpeafaidaa.Q
-- Qx59
-- Printed by a program of this session's over the kit's printer, with functions given from outside. Lean checks it.
namespace Go.Proofs.Ytenhigpeafaidaa.Q
open Go.RowKit Go.Proofs.YtenhigpeafaidaaW.PrintWords Go.Proofs.YtenhigpeafaidaaW.PrintLast Go.Proofs.YtenhigpeafaidaaW.PrintMore
attribute [local go_sem] max2_int min2_int max_two min_two max_three min_three max_four min_four   -- for this text's walks alone
set_option linter.unusedVariables false
set_option linter.unusedSimpArgs false

/-! ### problem_station: function 66 -/
def problem_station.f (a0 : Int) : Option (Bool) := if a0 ≥ 0 then (some (decide (a0 < 512))) else (some false)
set_option maxHeartbeats 8000000 in
set_option maxRecDepth 100000 in
theorem problem_station.calls (a0 : Int) (r : Bool) (w : World) (h : problem_station.f a0 = some r) :
  Calls Try.prog 66 #[.int .i64 a0] w fun e w' => e = .returned (.bool r) ∧ Drawn0 w w' := by
 have H : (if a0 ≥ 0 then (some (decide (a0 < 512))) else (some false)) = some r := h
 clear h
 by_cases c2 : a0 ≥ 0
 ·
  rw [if_pos c2] at H
  have c2b0 : decide (0 ≤ a0) = true := decide_eq_true c2
  clear c2
  obtain rfl := Option.some.inj H
  go_enter Try.func66, Try.ntmps66
  go_wp2
  go_ret
  exact ⟨by first | rfl | (simp; done) | (simp [*]; done), by repeat (first | exact Drawn0.refl _ | apply Drawn0.step)⟩
 ·
  rw [if_neg c2] at H
  have c2b0 : decide (0 ≤ a0) = false := decide_eq_false c2
  clear c2
  obtain rfl := Option.some.inj H
  go_enter Try.func66, Try.ntmps66
  go_wp2
  go_ret
  exact ⟨by first | rfl | (simp; done) | (simp [*]; done), by repeat (first | exact Drawn0.refl _ | apply Drawn0.step)⟩

end Go.Proofs.Ytenhigpeafaidaa.Q
-- Qx80
-- Printed by a program of this session's over the kit's printer, with functions given from outside. Lean checks it.
namespace Go.Proofs.Ytenhigpeafaidaa.Q
open Go.RowKit Go.Proofs.YtenhigpeafaidaaW.PrintWords Go.Proofs.YtenhigpeafaidaaW.PrintLast Go.Proofs.YtenhigpeafaidaaW.PrintMore
attribute [local go_sem] max2_int min2_int max_two min_two max_three min_three max_four min_four   -- for this text's walks alone
set_option linter.unusedVariables false
set_option linter.unusedSimpArgs false

/-! ### problem_span: function 67 -/
def problem_span.f (a0 : Int) (a1 : Int) : Option (Bool) := if a0 ≥ 2 then (if a0 ≤ a1 then (some (decide (a1 ≤ 51))) else (some false)) else (some false)
set_option maxHeartbeats 8000000 in
set_option maxRecDepth 100000 in
theorem problem_span.calls (a0 : Int) (a1 : Int) (r : Bool) (w : World) (h : problem_span.f a0 a1 = some r) :
  Calls Try.prog 67 #[.int .i64 a0, .int .i64 a1] w fun e w' => e = .returned (.bool r) ∧ Drawn0 w w' := by
 have H : (if a0 ≥ 2 then (if a0 ≤ a1 then (some (decide (a1 ≤ 51))) else (some false)) else (some false)) = some r := h
 clear h
 by_cases c3 : a0 ≥ 2
 ·
  rw [if_pos c3] at H
  have c3b0 : decide (2 ≤ a0) = true := decide_eq_true c3
  clear c3
  by_cases c4 : a0 ≤ a1
  ·
   rw [if_pos c4] at H
   have c4b0 : decide (a0 ≤ a1) = true := decide_eq_true c4
   clear c4
   obtain rfl := Option.some.inj H
   go_enter Try.func67, Try.ntmps67
   go_wp2
   go_ret
   exact ⟨by first | rfl | (simp; done) | (simp [*]; done), by repeat (first | exact Drawn0.refl _ | apply Drawn0.step)⟩
  ·
   rw [if_neg c4] at H
   have c4b0 : decide (a0 ≤ a1) = false := decide_eq_false c4
   clear c4
   obtain rfl := Option.some.inj H
   go_enter Try.func67, Try.ntmps67
   go_wp2
   go_ret
   exact ⟨by first | rfl | (simp; done) | (simp [*]; done), by repeat (first | exact Drawn0.refl _ | apply Drawn0.step)⟩
 ·
  rw [if_neg c3] at H
  have c3b0 : decide (2 ≤ a0) = false := decide_eq_false c3
  clear c3
  obtain rfl := Option.some.inj H
  go_enter Try.func67, Try.ntmps67
  go_wp2
  go_ret
  exact ⟨by first | rfl | (simp; done) | (simp [*]; done), by repeat (first | exact Drawn0.refl _ | apply Drawn0.step)⟩

end Go.Proofs.Ytenhigpeafaidaa.Q
