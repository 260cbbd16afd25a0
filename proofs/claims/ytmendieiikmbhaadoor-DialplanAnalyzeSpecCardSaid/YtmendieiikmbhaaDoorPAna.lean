/-
  PLAIN LAW: DialplanAnalyzeSpec's function answers true.
-/
import Derived.Test.YtmendieiikmbhaaDoorPRef8
import Derived.Test.YtmendieiikmbhaaDoorFn28x1
namespace Go.Proofs.YtmendieiikmbhaaDoor.Fn
open Go.RowKit Go.Proofs.YtmendieiikmbhaaDoorW.PrintWords Go.Proofs.YtmendieiikmbhaaDoorW.PrintLast Go.Proofs.YtmendieiikmbhaaDoorW.PrintMore
set_option linter.unusedVariables false
set_option linter.unusedSimpArgs false

theorem anaSpec_pure (l : Rl) (a1 : ByteArray) : ∃ k, crossbarlaw08_DialplanAnalyzeSpec.f k l a1 = some true := by
  refine Ev.rounds (g := fun k => crossbarlaw08_DialplanAnalyzeSpec.f k l a1) ?_
  unfold crossbarlaw08_DialplanAnalyzeSpec.f
  refine Ev.bind (a := true) (Ev.done rfl) ?_
  refine Ev.if_pos rfl ?_
  obtain ⟨b, hb, hs⟩ := Few_ev l a1
  refine Ev.bind hb ?_
  cases b with
  | false => exact Ev.if_neg (by decide) (Ev.now _)
  | true =>
    obtain ⟨h80, h60⟩ := hs rfl
    refine Ev.if_pos rfl ?_
    refine Ev.bind (Analyze_evI l a1 false (by omega)) ?_
    refine Ev.bind (Analyze8 l a1 false (by omega)) ?_
    refine Ev.bind (Analyze_evI l a1 true (by omega)) ?_
    refine Ev.bind (Analyze8 l a1 true (by omega)) ?_
    refine Ev.if_pos (by simp) ?_
    refine Ev.if_pos rfl ?_
    refine Ev.if_pos (by simp) ?_
    refine Ev.if_pos rfl ?_
    refine Ev.bind (a := chkR l) (Ev.done rfl) ?_
    refine Ev.bind (Check8 l) ?_
    exact Ev.done (by simp)

end Go.Proofs.YtmendieiikmbhaaDoor.Fn
