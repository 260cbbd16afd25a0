/-
  PLAIN LAW: DialplanOverlapAgreesWithEnBloc's function answers true.
-/
import Derived.Test.YtmendieiikmbhaaDoorPFew
import Derived.Test.YtmendieiikmbhaaDoorFn29
namespace Go.Proofs.YtmendieiikmbhaaDoor.Fn
open Go.RowKit Go.Proofs.YtmendieiikmbhaaDoorW.PrintWords Go.Proofs.YtmendieiikmbhaaDoorW.PrintLast Go.Proofs.YtmendieiikmbhaaDoorW.PrintMore
set_option linter.unusedVariables false
set_option linter.unusedSimpArgs false

theorem bloc_state (l : Rl) (s : ByteArray) : (blocI l s).1 = 2 ∨ (blocI l s).1 = 3 := by
  unfold blocI stB
  split
  · exact .inr rfl
  · dsimp only
    split
    · exact .inl rfl
    · exact .inr rfl
theorem over_state {l : Rl} (h : chkR l = 0) (s : ByteArray) : (overI l s).1 = 1 ∨ (overI l s).1 = (blocI l s).1 := by
  obtain ⟨hl, h64⟩ := chkR_zero h
  unfold overI blocI
  split
  · exact .inl rfl
  · split
    · exact .inr rfl
    · rename_i hn
      rcases bestR_cases l s with hb | ⟨j, hj, hb⟩
      · omega
      · dsimp only
        rw [hb]
        unfold rdR
        rw [rd_rule l j hj]
        have ro := hl.each _ (List.getElem_mem hj)
        generalize l[j] = r at ro ⊢
        have k1 := ro.k1
        have k4 := ro.k4
        have mx := ro.mx
        unfold stO stB
        by_cases c4 : r.f3 = 4
        · rw [_root_.if_pos c4, _root_.if_neg (by omega)]
          exact .inr rfl
        · rw [_root_.if_neg c4]
          by_cases c1 : (s.size : Int) < r.f2
          · rw [_root_.if_pos c1]
            exact .inl rfl
          · rw [_root_.if_neg c1]
            by_cases c2 : (s.size : Int) = r.f2
            · rw [_root_.if_pos c2, _root_.if_pos (by omega)]
              exact .inr rfl
            · rw [_root_.if_neg c2, _root_.if_neg (by omega)]
              exact .inr rfl
theorem agree_pure (l : Rl) (a1 : ByteArray) : ∃ k, crossbarlaw08_DialplanOverlapAgreesWithEnBloc.f k l a1 = some true := by
  refine Ev.rounds (g := fun k => crossbarlaw08_DialplanOverlapAgreesWithEnBloc.f k l a1) ?_
  unfold crossbarlaw08_DialplanOverlapAgreesWithEnBloc.f
  refine Ev.bind (a := true) (Ev.done rfl) ?_
  refine Ev.if_pos rfl ?_
  obtain ⟨b, hb, hs⟩ := Few_ev l a1
  refine Ev.bind hb ?_
  cases b with
  | false => exact Ev.if_neg (by decide) (Ev.now _)
  | true =>
    obtain ⟨h80, h60⟩ := hs rfl
    refine Ev.if_pos rfl ?_
    refine Ev.bind (Analyze_evI l a1 false (by omega)) ?_
    refine Ev.bind (Analyze_evI l a1 true (by omega)) ?_
    have bad : ∀ e : Int, Ev (fun k => crossbarlaw08_DialplanOverlapAgreesWithEnBloc.j0 k e e true 0 0 0 0) true := by
      intro e
      refine Ev.step (fun k => crossbarlaw08_DialplanOverlapAgreesWithEnBloc.j0.eq_2 _ _ _ _ _ _ _ k) ?_
      refine Ev.if_pos rfl ?_
      refine Ev.if_pos rfl ?_
      exact Ev.if_pos rfl (Ev.now _)
    by_cases h : chkR l = 0
    · cases hd : digB a1 with
      | false =>
        rw [anaI_nodig h hd, anaI_nodig h hd]
        exact Ev.if_neg (by decide) (bad 60)
      | true =>
        rw [anaI_over h hd, anaI_bloc h hd]
        refine Ev.if_pos rfl ?_
        refine Ev.step (fun k => crossbarlaw08_DialplanOverlapAgreesWithEnBloc.j0.eq_2 _ _ _ _ _ _ _ k) ?_
        refine Ev.if_neg (by simp) ?_
        have h1 := over_state h a1
        have h2 := bloc_state l a1
        have tail : ∀ a b : Int, (a = 1 ∨ a = b) → (b = 2 ∨ b = 3) → Ev (fun _ => if b = 1 then some false else if b = 2 then some (a != 3) else some true) true := by
          intro a b ha hb
          refine Ev.if_neg (by omega) ?_
          by_cases hb2 : b = 2
          · exact Ev.if_pos hb2 (Ev.done (bne_iff_ne.2 (by omega)))
          · exact Ev.if_neg hb2 (Ev.now _)
        by_cases ha : (overI l a1).1 = 1
        · refine Ev.if_pos ha ?_
          refine Ev.if_pos rfl ?_
          exact tail _ _ h1 h2
        · refine Ev.if_neg ha ?_
          refine Ev.if_neg ?_ ?_
          · rw [h1.resolve_left ha]
            simp
          · refine Ev.if_pos rfl ?_
            exact tail _ _ h1 h2
    · rw [anaI_bad h, anaI_bad h]
      refine Ev.if_neg h ?_
      exact bad (chkR l)

end Go.Proofs.YtmendieiikmbhaaDoor.Fn
