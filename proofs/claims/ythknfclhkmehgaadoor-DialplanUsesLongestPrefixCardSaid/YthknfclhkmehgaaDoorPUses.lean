/-
  PLAIN LAW: DialplanUsesLongestPrefix' function answers true.
-/
import Derived.Test.YthknfclhkmehgaaDoorPFew
import Derived.Test.YthknfclhkmehgaaDoorFn5
namespace Go.Proofs.YthknfclhkmehgaaDoor.Fn
open Go.RowKit Go.Proofs.YthknfclhkmehgaaDoorW.PrintWords Go.Proofs.YthknfclhkmehgaaDoorW.PrintLast Go.Proofs.YthknfclhkmehgaaDoorW.PrintMore
set_option linter.unusedVariables false
set_option linter.unusedSimpArgs false

theorem uses_loop {l : Rl} (h : chkR l = 0) (s : ByteArray) (hs : s.size ≤ 60) (hd : digB s = true) : ∀ (m i : Nat), l.length - i = m → i ≤ l.length →
    Ev (fun k => crossbarlaw08_DialplanUsesLongestPrefix.l0 k l s l (l.length : Int) (i : Int) (overI l s).1 (bestR l s) (planT l i)) true := by
  obtain ⟨hl, h64⟩ := chkR_zero h
  intro m
  induction m with
  | zero =>
    intro i hm hi
    obtain rfl : i = l.length := by omega
    refine Ev.step (fun k => crossbarlaw08_DialplanUsesLongestPrefix.l0.eq_2 _ _ _ _ _ _ _ _ k) ?_
    refine Ev.if_neg (by omega) ?_
    refine Ev.bind (Long_ev _ s (by omega)) ?_
    have hdg := (digB_iff s).1 hd
    have hext : Ev (fun k => (trie_Extends.f k (planT l l.length) s).bind fun t141 => (if t141 = true then (some ((overI l s).1 == 1)) else (some true))) true := by
      refine Ev.bind (Ext_ev _ s (by omega)) ?_
      rw [ext_best h hdg]
      cases hx : extR l s with
      | true =>
        refine Ev.if_pos rfl (Ev.done ?_)
        unfold overI
        rw [if_pos (.inl hx)]
        rfl
      | false => exact Ev.if_neg (by decide) (Ev.now _)
    rcases long_best h hdg with ⟨h1, h2⟩ | ⟨j, hj, h1, h2⟩
    · rw [h1, h2]
      refine Ev.if_neg (by decide) ?_
      refine Ev.if_neg (by decide) ?_
      exact hext
    · rw [h1, h2]
      refine Ev.if_neg (by rw [decide_eq_true (show (j : Int) ≥ 0 by omega)]; simp) ?_
      refine Ev.if_pos rfl ?_
      refine Ev.if_pos (w64 (by omega) (by omega)).symm ?_
      refine Ev.if_neg (by omega) ?_
      refine Ev.if_pos (by omega) ?_
      refine Ev.if_pos (by omega) ?_
      refine Ev.if_pos rfl ?_
      exact hext
  | succ m ih =>
    intro i hm hi
    have hil : i < l.length := by omega
    have hr := hl.each _ (List.getElem_mem hil)
    obtain ⟨g1, _⟩ := planT_step hl h64 hil (planT_ok hl h64 i (by omega))
    have hnext := ih (i + 1) (by omega) (by omega)
    refine Ev.step (fun k => crossbarlaw08_DialplanUsesLongestPrefix.l0.eq_2 _ _ _ _ _ _ _ _ k) ?_
    refine Ev.if_pos (by omega) ?_
    refine Ev.if_pos (by omega) ?_
    refine Ev.if_pos (by omega) ?_
    have e : wrap64 ((i : Int) + 1) = (i : Int) + 1 := w64 (by omega) (by omega)
    rw [e]
    refine Ev.bind (Put_ev (planT l i) _ _ (by rw [rd_rule l i hil]; have := hr.hi; omega)) ?_
    refine Ev.if_pos g1 ?_
    have e2 : (((i + 1 : Nat)) : Int) = (i : Int) + 1 := by omega
    rw [e2] at hnext
    exact hnext
theorem uses_pure (l : Rl) (a1 : ByteArray) : ∃ k, crossbarlaw08_DialplanUsesLongestPrefix.f k l a1 = some true := by
  refine Ev.rounds (g := fun k => crossbarlaw08_DialplanUsesLongestPrefix.f k l a1) ?_
  unfold crossbarlaw08_DialplanUsesLongestPrefix.f
  refine Ev.bind (a := true) (Ev.done rfl) ?_
  refine Ev.if_pos rfl ?_
  obtain ⟨b, hb, hs⟩ := Few_ev l a1
  refine Ev.bind hb ?_
  cases b with
  | false => exact Ev.if_neg (by decide) (Ev.now _)
  | true =>
    obtain ⟨h80, h60⟩ := hs rfl
    refine Ev.if_pos rfl ?_
    refine Ev.bind (Analyze_evI l a1 false (by omega)) ?_
    by_cases h : chkR l = 0
    · cases hd : digB a1 with
      | false =>
        rw [anaI_nodig h hd]
        exact Ev.if_neg (by decide) (Ev.done rfl)
      | true =>
        rw [anaI_over h hd]
        refine Ev.if_pos rfl ?_
        refine Ev.bind (a := [z77]) (Ev.done rfl) ?_
        exact uses_loop h a1 h60 hd l.length 0 (by omega) (by omega)
    · rw [anaI_bad h]
      exact Ev.if_neg h (Ev.done rfl)

end Go.Proofs.YthknfclhkmehgaaDoor.Fn
