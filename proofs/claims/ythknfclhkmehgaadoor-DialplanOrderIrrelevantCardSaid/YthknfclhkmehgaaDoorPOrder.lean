/-
  PLAIN LAW: DialplanOrderIrrelevant's function answers true.
-/
import Derived.Test.YthknfclhkmehgaaDoorPRev
import Derived.Test.YthknfclhkmehgaaDoorFn6
namespace Go.Proofs.YthknfclhkmehgaaDoor.Fn
open Go.RowKit Go.Proofs.YthknfclhkmehgaaDoorW.PrintWords Go.Proofs.YthknfclhkmehgaaDoorW.PrintLast Go.Proofs.YthknfclhkmehgaaDoorW.PrintMore
set_option linter.unusedVariables false
set_option linter.unusedSimpArgs false

theorem order_end (l : Rl) (s : ByteArray) (fin : Bool) (h80 : l.length ≤ 80) (hs : s.size ≤ 60) :
    Ev (fun k => crossbarlaw08_DialplanOrderIrrelevant.l0 k l s fin l.reverse (-1)) true := by
  refine Ev.step (fun k => crossbarlaw08_DialplanOrderIrrelevant.l0.eq_2 _ _ _ _ _ k) ?_
  refine Ev.if_neg (by decide) ?_
  refine Ev.bind (Analyze_evI l s fin (by omega)) ?_
  refine Ev.bind (Analyze_evI l.reverse s fin (by omega)) ?_
  by_cases h : chkR l = 0
  · have h' : chkR l.reverse = 0 := (chkR_reverse l).trans h
    cases hd : digB s with
    | false =>
      rw [anaI_nodig h hd, anaI_nodig h' hd]
      refine Ev.if_neg (by decide) ?_
      exact Ev.if_pos rfl (Ev.done rfl)
    | true =>
      rw [anaI_ok h hd, anaI_ok h' hd, stI_reverse h, bestR_reverse h]
      refine Ev.if_pos rfl ?_
      rcases bestR_cases l s with hb | ⟨j, hj, hb⟩
      · rw [hb]
        refine Ev.if_pos (show (-1 : Int) < 0 by decide) ?_
        refine Ev.if_pos ?_ (Ev.done rfl)
        simp [turnI]
      · rw [hb]
        refine Ev.if_neg (by dsimp only; omega) ?_
        refine Ev.if_pos rfl ?_
        refine Ev.if_pos rfl (Ev.done ?_)
        have e : turnI l (j : Int) = (l.length : Int) - 1 - j := by unfold turnI; rw [if_neg (by omega)]
        dsimp only
        rw [e, show (j : Int) + ((l.length : Int) - 1 - j) = (l.length : Int) - 1 by omega]
        exact beq_iff_eq.2 rfl
  · have h' : chkR l.reverse ≠ 0 := by rw [chkR_reverse]; exact h
    rw [anaI_bad h, anaI_bad h', chkR_reverse]
    refine Ev.if_neg h ?_
    exact Ev.if_pos rfl (Ev.done (beq_iff_eq.2 rfl))
theorem order_loop (l : Rl) (s : ByteArray) (fin : Bool) (h80 : l.length ≤ 80) (hs : s.size ≤ 60) : ∀ i : Nat, i ≤ l.length →
    Ev (fun k => crossbarlaw08_DialplanOrderIrrelevant.l0 k l s fin (l.drop i).reverse ((i : Int) - 1)) true := by
  intro i
  induction i with
  | zero =>
    intro _
    rw [List.drop_zero]
    exact order_end l s fin h80 hs
  | succ i ih =>
    intro hi
    have hil : i < l.length := by omega
    have hnext := ih (by omega)
    rw [List.drop_eq_getElem_cons hil, List.reverse_cons] at hnext
    rw [show ((i + 1 : Nat) : Int) - 1 = (i : Int) by omega]
    refine Ev.step (fun k => crossbarlaw08_DialplanOrderIrrelevant.l0.eq_2 _ _ _ _ _ k) ?_
    refine Ev.if_pos (by omega) ?_
    refine Ev.if_pos (by omega) ?_
    refine Ev.if_pos (by omega) ?_
    refine Ev.if_pos (by rw [List.length_reverse, List.length_drop]; omega) ?_
    rw [rd_rule l i hil, w64 (by omega) (by omega)]
    exact hnext
theorem order_pure (l : Rl) (a1 : ByteArray) (fin : Bool) : ∃ k, crossbarlaw08_DialplanOrderIrrelevant.f k l a1 fin = some true := by
  refine Ev.rounds (g := fun k => crossbarlaw08_DialplanOrderIrrelevant.f k l a1 fin) ?_
  unfold crossbarlaw08_DialplanOrderIrrelevant.f
  refine Ev.bind (a := true) (Ev.done rfl) ?_
  refine Ev.if_pos rfl ?_
  obtain ⟨b, hb, hs⟩ := Few_ev l a1
  refine Ev.bind hb ?_
  cases b with
  | false => exact Ev.if_neg (by decide) (Ev.now _)
  | true =>
    obtain ⟨h80, h60⟩ := hs rfl
    refine Ev.if_pos rfl ?_
    rw [w64 (by omega) (by omega)]
    have h := order_loop l a1 fin h80 h60 l.length (Nat.le_refl _)
    rw [List.drop_length] at h
    exact h

end Go.Proofs.YthknfclhkmehgaaDoor.Fn
