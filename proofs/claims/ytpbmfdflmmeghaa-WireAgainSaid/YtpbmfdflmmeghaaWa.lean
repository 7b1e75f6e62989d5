import Derived.Test.YtpbmfdflmmeghaaProg
import Derived.Test.YtpbmfdflmmeghaaWWords
import Derived.Test.YtpbmfdflmmeghaaWLast
import Derived.Test.YtpbmfdflmmeghaaWMore
import Derived.Below
import Derived.WalkKit
import Derived.KernelRfl
import Derived.RowKit3
import Derived.Deep.LoopGhost
import Derived.Deep.QuietTactic
import Derived.BigQuiet
import Derived.WideLaws
import Derived.Deep.DeepCutAuto
import Derived.Deep.CutBlock
import Derived.Deep.RegionHeld3
import Derived.Lib.Hide
import Derived.RegionTactic
import Derived.Outline
namespace Go.Proofs.Ytpbmfdflmmeghaa.Wire
open Go.RowKit Go.Proofs.YtpbmfdflmmeghaaW.PrintWords Go.Proofs.YtpbmfdflmmeghaaW.PrintLast Go.Proofs.YtpbmfdflmmeghaaW.PrintMore
set_option linter.unusedVariables false
set_option linter.unusedSimpArgs false

/-- 'broken' at a status cell that holds e. -/
theorem broken_calls (b o : Nat) (e : Int) (w : World) (hc : w.cell? ⟨b, o, none⟩ = some (.int .i64 e)) :
    Calls Try.prog 39 #[.pointer (some ⟨b, o, none⟩)] w fun r w' => r = .returned (.bool (e != 0)) ∧ w = w' := by
  go_enter Try.func39, Try.ntmps39
  go_wp2
  go_ret
  exact ⟨rfl, rfl⟩


theorem fail_calls (b : Nat) (cs : Array Value) (t : TypeId) (o : Nat) (e c : Int) (w : World) (hb : w.heap[b]? = some (.cells cs t (0, 0))) (hc : cs[o]? = some (.int .i64 e)) :
    Calls Try.prog 43 #[.pointer (some ⟨b, o, none⟩), .int .i64 c] w fun r w' => r = .returned (.tuple #[]) ∧ (if e = 0 then w' = w.setCell ⟨b, o, none⟩ (.int .i64 c) else w' = w) := by
  have hcell : w.cell? ⟨b, o, none⟩ = some (.int .i64 e) := (blk_cell hb o).trans hc
  have hfr : w.frozen? ⟨b, o, none⟩ = false := blk_frozen hb o
  by_cases h : e = 0
  · subst h
    go_enter Try.func43, Try.ntmps43
    go_wp2
    go_end0
    exact ⟨rfl, rfl⟩
  · have h2 : (e == 0) = false := by simpa using h
    simp only [if_neg h]
    go_enter Try.func43, Try.ntmps43
    go_wp2
    go_end0
    exact ⟨rfl, rfl⟩

end Go.Proofs.Ytpbmfdflmmeghaa.Wire
