import Derived.Test.YtpbmfdflmmeghaaWs
import Derived.Test.YtpbmfdflmmeghaaWu
import Derived.Deep.RegionHeld3
namespace Go.Proofs.Ytpbmfdflmmeghaa.Wire
open Go.RowKit Go.Proofs.YtpbmfdflmmeghaaW.PrintWords Go.Proofs.YtpbmfdflmmeghaaW.PrintLast Go.Proofs.YtpbmfdflmmeghaaW.PrintMore
set_option linter.unusedVariables false
set_option linter.unusedSimpArgs false

theorem WrAt.bound {w : World} {base wb : Nat} {ok : Nat → Prop} {v : Value} {e : Int} {out : List Int} (h : WrAt w base wb ok v e out) : WrAt w base wb (fun k => ok k ∧ k < w.heap.size) v e out :=
  ⟨h.hb, ⟨h.okb, blk_lt h.blk⟩, h.blk, Kd.R_mono (Kd.R_bound h.own) (fun _ hk => ⟨hk.1, hk.2.2.1⟩), h.le⟩

/-- string(v) of a row of bytes. -/
def StrOf (v : Value) (l : List Int) (W : World) : Prop := (convert 28 9 v).run Try.prog W = .ok (.string (strOfNums l)) W
theorem StrOf.of_R {W : World} {base : Nat} {ok : Nat → Prop} {v : Value} {l : List Int} (h : (Kd.int .u8).R 5 W base ok v l) : StrOf v l W := by
  obtain ⟨A, c, rfl⟩ := Kd.R_slice h
  exact Kd.C_string Try.underlying28 Try.underlying5 Try.underlying9 ((Kd.R_reads' h).2.2)

theorem putE0 (b : List Int) (h : b.length ≤ 65536) : putE 0 [] b = 0 ∧ putO 0 [] b = b := by
  unfold putE putO; simp; omega

section
variable {P : Program} {ops : Array Oper} {Q : Exit → Act → World → Prop} {md : Region.Mode} {S S' : World → Prop}
/-- The condition on the world may be made stronger on the way. -/
theorem wpAnyH_strong (hs : ∀ w, S' w → S w) : ∀ {fuel : Nat} {listed : Array Bool} {a : Act} {w : World}, wpAnyH P md ops Q S' fuel listed a w → wpAnyH P md ops Q S fuel listed a w
  | 0, _, _, _, h => h
  | fuel + 1, _, _, _, h => ⟨h.1, fun i hi => wpOp_mono (fun a' w' h' => ⟨hs _ h'.1, wpAnyH_strong hs h'.2⟩) (h.2 i hi)⟩
theorem ready_some {listed : Array Bool} {i : Nat} (h : i ∈ Region.ready md ops listed) : ∃ o, ops[i]? = some o := by
  obtain ⟨_, o, ho, _⟩ := mem_ready.1 h; exact ⟨o, ho⟩
/-- Take number i first; the operation is handed over with its own text. -/
theorem wpAnyH_takeG {i : Nat} {fuel : Nat} {listed : Array Bool} {a : Act} {w : World}
    (hs : Region.noSelect ops = true) (hf : Region.free md ops listed i = true) (hr : (Region.ready md ops listed).contains i = true)
    (hQ : ∀ c (a : Act) d v w, Q (.panic c) (a.put d v) w → Q (.panic c) a w) (hS : S w)
    (h : ∀ oi, ops[i]? = some oi → ∃ v, Region.wanted oi (yielded ops a.tmps) = true ∧ (∀ w, S w → (execOp a.eval oi).run P w = .ok (.value v) w) ∧ wpAnyH P md ops Q S fuel (listed.setIfInBounds i true) (a.put oi.dst v) w) : wpAnyH P md ops Q S (fuel + 1) listed a w := by
  obtain ⟨o, ho⟩ := ready_some (i := i) (by simpa using hr)
  obtain ⟨v, h1, h2, h3⟩ := h o ho
  exact wpAnyH_take ho hs hf hr (fun c a w => hQ c a _ _ w) (.inl ⟨h1, h2⟩) hS h3
/-- The one operation that may come up. -/
theorem wpAnyH_oneG {i : Nat} {fuel : Nat} {listed : Array Bool} {a : Act} {w : World} (hr : Region.ready md ops listed = [i])
    (h : ∀ oi, ops[i]? = some oi → ∀ K' : Act → World → Prop, Shut (∀ a w, S w → (S w → wpAnyH P md ops Q S fuel (listed.setIfInBounds i true) a w) → K' a w) → if Region.wanted oi (yielded ops a.tmps) = true then Oper.wp P oi a w K' Q else K' (a.put oi.dst undef) w) :
    wpAnyH P md ops Q S (fuel + 1) listed a w := by
  obtain ⟨o, ho⟩ := ready_some (md := md) (ops := ops) (listed := listed) (i := i) (by rw [hr]; simp)
  exact wpAnyH_ready hr (by simp) (AllReadyH.cons ho (h o ho) AllReadyH.nil)
end
theorem frames_add (a b : List Int) : strOfNums a ++ strOfNums b = strOfNums (a ++ b) := by
  apply ByteArray.ext
  simp [strOfNums]
end Go.Proofs.Ytpbmfdflmmeghaa.Wire
