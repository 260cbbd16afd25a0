/-
  PLAIN LAW: DialplanBarsNumbers' function answers true.
-/
import Derived.Test.YthknfclhkmehgaaDoorPRev
import Derived.Test.YthknfclhkmehgaaDoorFn5
namespace Go.Proofs.YthknfclhkmehgaaDoor.Fn
open Go.RowKit Go.Proofs.YthknfclhkmehgaaDoorW.PrintWords Go.Proofs.YthknfclhkmehgaaDoorW.PrintLast Go.Proofs.YthknfclhkmehgaaDoorW.PrintMore
set_option linter.unusedVariables false
set_option linter.unusedSimpArgs false

theorem bars_pure (l : Rl) (a1 : ByteArray) (fin : Bool) : ∃ k, crossbarlaw08_DialplanBarsNumbers.f k l a1 fin = some true := by
  refine Ev.rounds (g := fun k => crossbarlaw08_DialplanBarsNumbers.f k l a1 fin) ?_
  unfold crossbarlaw08_DialplanBarsNumbers.f
  refine Ev.bind (a := true) (Ev.done rfl) ?_
  refine Ev.if_pos rfl ?_
  obtain ⟨b, hb, hs⟩ := Few_ev l a1
  refine Ev.bind hb ?_
  cases b with
  | false => exact Ev.if_neg (by decide) (Ev.now _)
  | true =>
    obtain ⟨h80, h60⟩ := hs rfl
    refine Ev.if_pos rfl ?_
    refine Ev.bind (Analyze_evI l a1 fin (by omega)) ?_
    have skip : ∀ x y : Int, Ev (fun k => crossbarlaw08_DialplanBarsNumbers.j0 k l a1 fin true x y) true := by
      intro x y
      refine Ev.step (fun k => crossbarlaw08_DialplanBarsNumbers.j0.eq_2 _ _ _ _ _ _ k) ?_
      exact Ev.if_pos rfl (Ev.now _)
    by_cases h : chkR l = 0
    · cases hd : digB a1 with
      | false =>
        rw [anaI_nodig h hd]
        exact Ev.if_neg (by decide) (skip _ _)
      | true =>
        rw [anaI_ok h hd]
        refine Ev.if_pos rfl ?_
        by_cases h2 : stI l a1 fin = 2
        · obtain ⟨j, hj, e, c1, c2, c3, c4⟩ := stI_two h h2
          dsimp only
          rw [h2, e]
          refine Ev.step (fun k => crossbarlaw08_DialplanBarsNumbers.j0.eq_2 _ _ _ _ _ _ k) ?_
          refine Ev.if_neg (by decide) ?_
          refine Ev.if_neg (by omega) ?_
          refine Ev.if_neg (by omega) ?_
          refine Ev.if_pos (by omega) ?_
          refine Ev.if_pos (by omega) ?_
          refine Ev.if_neg c1 ?_
          refine Ev.if_pos c2 ?_
          refine Ev.if_pos c3 ?_
          rcases c4 with rfl | c4
          · exact Ev.if_pos rfl (Ev.now _)
          · cases fin with
            | true => exact Ev.if_pos rfl (Ev.now _)
            | false => exact Ev.if_neg (by decide) (Ev.done (beq_iff_eq.2 c4))
        · dsimp only
          rw [show (stI l a1 fin != 2) = true from bne_iff_ne.2 h2]
          exact skip _ _
    · rw [anaI_bad h]
      exact Ev.if_neg h (skip _ _)

end Go.Proofs.YthknfclhkmehgaaDoor.Fn
