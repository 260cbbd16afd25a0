/-
  PLAIN LAW: OriginReleasesOnce's function answers true.
-/
import Derived.Test.YthknfclhkmehgaaDoorPRun
import Derived.Test.YthknfclhkmehgaaDoorFn20x2
namespace Go.Proofs.YthknfclhkmehgaaDoor.Fn
open Go.RowKit Go.Proofs.YthknfclhkmehgaaDoorW.PrintWords Go.Proofs.YthknfclhkmehgaaDoorW.PrintLast Go.Proofs.YthknfclhkmehgaaDoorW.PrintMore
set_option linter.unusedVariables false
set_option linter.unusedSimpArgs false

theorem rel_pure (l : Rl) (evs : List S47) : ∃ k, crossbarlaw16_OriginReleasesOnce.f k l evs = some true := by
  refine Ev.rounds (g := fun k => crossbarlaw16_OriginReleasesOnce.f k l evs) ?_
  unfold crossbarlaw16_OriginReleasesOnce.f
  refine Ev.bind (a := true) (Ev.done rfl) ?_
  refine Ev.if_pos rfl ?_
  obtain ⟨b, hb, h2⟩ := few_ev l evs
  refine Ev.bind hb ?_
  cases b with
  | false => exact Ev.if_neg (by decide) (Ev.now _)
  | true =>
    refine Ev.if_pos rfl ?_
    obtain ⟨st, d, h, hR, hE⟩ := run_all l evs (h2 rfl)
    refine Ev.bind hE ?_
    have hca := hR.ca
    by_cases c2 : st = 2
    · refine Ev.if_pos c2 ?_
      exact Ev.if_pos (hca.trans (_root_.if_pos (.inl c2))) (Ev.now _)
    refine Ev.if_neg c2 ?_
    by_cases c3 : st = 3
    · refine Ev.if_pos c3 ?_
      exact Ev.if_pos (hca.trans (_root_.if_pos (.inr (.inl c3)))) (Ev.now _)
    refine Ev.if_neg c3 ?_
    by_cases c4 : st = 4
    · refine Ev.if_pos c4 ?_
      exact Ev.if_pos (hca.trans (_root_.if_pos (.inr (.inr c4)))) (Ev.now _)
    refine Ev.if_neg c4 ?_
    refine Ev.done ?_
    show (h.2.1 == 0) = true
    rw [hca, _root_.if_neg (by omega)]
    rfl

end Go.Proofs.YthknfclhkmehgaaDoor.Fn
