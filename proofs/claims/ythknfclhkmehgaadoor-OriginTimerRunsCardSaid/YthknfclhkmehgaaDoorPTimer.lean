/-
  PLAIN LAW: OriginTimerRuns' function answers true.
-/
import Derived.Test.YthknfclhkmehgaaDoorPRun
import Derived.Test.YthknfclhkmehgaaDoorFn20x1
namespace Go.Proofs.YthknfclhkmehgaaDoor.Fn
open Go.RowKit Go.Proofs.YthknfclhkmehgaaDoorW.PrintWords Go.Proofs.YthknfclhkmehgaaDoorW.PrintLast Go.Proofs.YthknfclhkmehgaaDoorW.PrintMore
set_option linter.unusedVariables false
set_option linter.unusedSimpArgs false

theorem timer_pure (l : Rl) (evs : List S47) : ∃ k, crossbarlaw16_OriginTimerRuns.f k l evs = some true := by
  refine Ev.rounds (g := fun k => crossbarlaw16_OriginTimerRuns.f k l evs) ?_
  unfold crossbarlaw16_OriginTimerRuns.f
  refine Ev.bind (a := true) (Ev.done rfl) ?_
  refine Ev.if_pos rfl ?_
  obtain ⟨b, hb, h2⟩ := few_ev l evs
  refine Ev.bind hb ?_
  cases b with
  | false => exact Ev.if_neg (by decide) (Ev.now _)
  | true =>
    refine Ev.if_pos rfl ?_
    obtain ⟨st, d, h, hR, hE⟩ := run_all l evs (h2 rfl)
    refine Ev.bind hE ?_
    refine Ev.if_pos hR.ok (Ev.done ?_)
    show (h.1 == (st == 1)) = true
    rw [hR.tm]
    by_cases c : st = 1
    · simp [c]
    · rw [decide_eq_false c, beq_eq_false_iff_ne.2 c]
      rfl

end Go.Proofs.YthknfclhkmehgaaDoor.Fn
