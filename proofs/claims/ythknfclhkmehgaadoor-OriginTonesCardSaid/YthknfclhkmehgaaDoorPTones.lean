/-
  PLAIN LAW: OriginTones' function answers true.
-/
import Derived.Test.YthknfclhkmehgaaDoorPRun
import Derived.Test.YthknfclhkmehgaaDoorFn20x3
namespace Go.Proofs.YthknfclhkmehgaaDoor.Fn
open Go.RowKit Go.Proofs.YthknfclhkmehgaaDoorW.PrintWords Go.Proofs.YthknfclhkmehgaaDoorW.PrintLast Go.Proofs.YthknfclhkmehgaaDoorW.PrintMore
set_option linter.unusedVariables false
set_option linter.unusedSimpArgs false

theorem tones_pure (l : Rl) (evs : List S47) : ∃ k, crossbarlaw16_OriginTones.f k l evs = some true := by
  refine Ev.rounds (g := fun k => crossbarlaw16_OriginTones.f k l evs) ?_
  unfold crossbarlaw16_OriginTones.f
  refine Ev.bind (a := true) (Ev.done rfl) ?_
  refine Ev.if_pos rfl ?_
  obtain ⟨b, hb, h2⟩ := few_ev l evs
  refine Ev.bind hb ?_
  cases b with
  | false => exact Ev.if_neg (by decide) (Ev.now _)
  | true =>
    refine Ev.if_pos rfl ?_
    obtain ⟨st, d, h, hR, hE⟩ := run_all l evs (h2 rfl)
    refine Ev.bind hE ?_
    have hlo := hR.lo
    have hhi := hR.hi
    by_cases c0 : st = 0
    · refine Ev.if_pos c0 ?_
      rcases hR.t0 c0 with e | e
      · exact Ev.if_pos e (Ev.now _)
      · refine Ev.if_neg (by rw [e]; decide) (Ev.done ?_)
        exact beq_iff_eq.2 e
    refine Ev.if_neg c0 ?_
    by_cases c1 : st = 1
    · refine Ev.if_pos c1 ?_
      refine Ev.step (fun k => crossbarlaw16_OriginTones.j0.eq_2 _ _ _ _ _ _ _ k) ?_
      by_cases hd : d.size = 0
      · refine Ev.if_pos (by rw [(nil_iff d).2 hd]; rfl) (Ev.done ?_)
        exact beq_iff_eq.2 (hR.t1 c1 hd)
      · refine Ev.if_neg (fun hh => hd ((nil_iff d).1 (beq_iff_eq.1 hh))) ?_
        refine Ev.if_neg (by omega) ?_
        refine Ev.if_neg (by omega) ?_
        exact Ev.done (beq_iff_eq.2 (hR.t2 (.inr (.inr ⟨c1, hd⟩))))
    refine Ev.if_neg c1 ?_
    refine Ev.step (fun k => crossbarlaw16_OriginTones.j0.eq_2 _ _ _ _ _ _ _ k) ?_
    refine Ev.if_neg (by decide) ?_
    by_cases c3 : st = 3
    · refine Ev.if_pos c3 (Ev.done ?_)
      exact beq_iff_eq.2 (hR.t3 c3)
    refine Ev.if_neg c3 ?_
    by_cases c5 : st = 5
    · refine Ev.if_pos c5 (Ev.done ?_)
      exact beq_iff_eq.2 (hR.t5 c5)
    refine Ev.if_neg c5 ?_
    refine Ev.done (beq_iff_eq.2 (hR.t2 ?_))
    by_cases c2 : st = 2
    · exact .inl c2
    · exact .inr (.inl (by omega))

end Go.Proofs.YthknfclhkmehgaaDoor.Fn
