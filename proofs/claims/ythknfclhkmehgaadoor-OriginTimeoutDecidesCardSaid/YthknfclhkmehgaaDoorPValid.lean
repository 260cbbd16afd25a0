/-
  PLAIN LAW: what Step and Dial answer is valid; OriginStaysValid's function answers true.
-/
import Derived.Test.YthknfclhkmehgaaDoorPDialO
import Derived.Test.YthknfclhkmehgaaDoorPFew
import Derived.Test.YthknfclhkmehgaaDoorFn21
namespace Go.Proofs.YthknfclhkmehgaaDoor.Fn
open Go.RowKit Go.Proofs.YthknfclhkmehgaaDoorW.PrintWords Go.Proofs.YthknfclhkmehgaaDoorW.PrintLast Go.Proofs.YthknfclhkmehgaaDoorW.PrintMore
set_option linter.unusedVariables false
set_option linter.unusedSimpArgs false

theorem chkO_nil {l : Rl} (h : chkR l = 0) {st : Int} (h0 : 0 ≤ st) (h5 : st ≤ 5) (h1 : st ≠ 1) : chkO l st ⟨#[]⟩ = 0 :=
  (_root_.if_neg (fun hh => hh h)).trans ((_root_.if_neg (by omega)).trans ((_root_.if_neg h1).trans (_root_.if_pos rfl)))
theorem ana_err {l : Rl} {s : ByteArray} {fin : Bool} (h1 : (anaI l s fin).1 = 1) : chkR l = 0 ∧ digB s = true ∧ (anaI l s fin).2.2 = 0 := by
  by_cases h : chkR l = 0
  · cases hd : digB s with
    | false => rw [anaI_nodig h hd] at h1; cases h1
    | true => exact ⟨h, rfl, by rw [anaI_ok h hd]⟩
  · rw [anaI_bad h] at h1
    cases h1
theorem need_small {l : Rl} {s : ByteArray} (h1 : (anaI l s false).1 = 1) : s.size ≤ 20 := by
  obtain ⟨h, hd, _⟩ := ana_err h1
  obtain ⟨hl, _⟩ := chkR_zero h
  rw [anaI_over h hd] at h1
  have h2 : (overI l s).1 = 1 := h1
  unfold overI at h2
  by_cases c : extR l s = true ∨ (bestR l s < 0 ∧ s.size = 0)
  · rcases c with c | c
    · unfold extR at c
      obtain ⟨r, hr, hh⟩ := List.any_eq_true.1 c
      simp only [Bool.and_eq_true, decide_eq_true_eq] at hh
      have := (hl.each _ hr).hi
      omega
    · omega
  · rw [_root_.if_neg c] at h2
    by_cases cb : bestR l s < 0
    · rw [_root_.if_pos cb] at h2
      cases h2
    · rw [_root_.if_neg cb] at h2
      rcases bestR_cases l s with hb | ⟨j, hj, hb⟩
      · omega
      · rw [hb] at h2
        have ro : RuleOk (rdR l (j : Int)) := by
          unfold rdR
          rw [rd_rule l j hj]
          exact hl.each _ (List.getElem_mem hj)
        have mx := ro.m20
        dsimp only at h2
        unfold stO at h2
        split at h2
        · cases h2
        · split at h2
          · omega
          · split at h2
            · cases h2
            · cases h2
theorem chkO_need {l : Rl} {s : ByteArray} (h1 : (anaI l s false).1 = 1) : chkO l 1 s = 0 := by
  obtain ⟨h, _, he⟩ := ana_err h1
  exact (_root_.if_neg (fun hh => hh h)).trans ((_root_.if_neg (by omega)).trans ((_root_.if_pos rfl).trans (_root_.if_pos ⟨he, h1, need_small h1⟩)))
theorem need_nil {l : Rl} (h : chkR l = 0) : (anaI l ⟨#[]⟩ false).1 = 1 := by
  obtain ⟨hl, _⟩ := chkR_zero h
  rw [anaI_over h (show digB ⟨#[]⟩ = true by decide)]
  show (overI l ⟨#[]⟩).1 = 1
  unfold overI
  rw [_root_.if_pos]
  rcases bestR_cases l ⟨#[]⟩ with hb | ⟨j, hj, hb⟩
  · exact .inr ⟨by omega, rfl⟩
  · refine .inl ?_
    unfold extR
    rw [List.any_eq_true]
    refine ⟨l[j], List.getElem_mem hj, ?_⟩
    have hlo := (hl.each _ (List.getElem_mem hj)).lo
    simp only [Bool.and_eq_true, decide_eq_true_eq]
    refine ⟨begB_iff.2 (List.nil_prefix), ?_⟩
    show 0 < _
    omega

theorem step_zero' {l : Rl} {st : Int} {d : ByteArray} {ek ec ed : Int} (he : (stepI l st d ek ec ed).2.2.2 = 0) : chkO l st d = 0 ∧ badE ek ec ed = false ∧ ∃ f, tabI st ek = some f ∧ stepI l st d ek ec ed = ((methI l st d ec ed f).1, (methI l st d ec ed f).2.1, (methI l st d ec ed f).2.2, 0) := by
  by_cases h : chkO l st d = 0
  · have k0 : ¬ chkO l st d ≠ 0 := fun hh => hh h
    cases hb : badE ek ec ed with
    | true =>
      rw [show stepI l st d ek ec ed = (0, ⟨#[]⟩, [], 1) from (_root_.if_neg k0).trans (_root_.if_pos hb)] at he
      cases he
    | false =>
      have k1 : ¬ badE ek ec ed = true := by rw [hb]; decide
      cases ht : tabI st ek with
      | none =>
        rw [show stepI l st d ek ec ed = (0, ⟨#[]⟩, [], 160) from (_root_.if_neg k0).trans ((_root_.if_neg k1).trans (by rw [ht]))] at he
        cases he
      | some f => exact ⟨h, rfl, f, rfl, (_root_.if_neg k0).trans ((_root_.if_neg k1).trans (by rw [ht]))⟩
  · rw [show stepI l st d ek ec ed = (0, ⟨#[]⟩, [], chkO l st d) from _root_.if_pos h] at he
    exact absurd he h
theorem decP_st (l : Rl) (d : ByteArray) (x y : Int) (acts : Al) : ((decP l d x y acts).1 = 5 ∨ (decP l d x y acts).1 = 2) ∧ (decP l d x y acts).2.1 = ⟨#[]⟩ := by
  rcases decP_cases l d x y acts with e | e | e <;> rw [e]
  · exact ⟨.inl rfl, rfl⟩
  · exact ⟨.inl rfl, rfl⟩
  · exact ⟨.inr rfl, rfl⟩
theorem decP_valid {l : Rl} (h : chkR l = 0) (d : ByteArray) (x y : Int) (acts : Al) : chkO l (decP l d x y acts).1 (decP l d x y acts).2.1 = 0 := by
  obtain ⟨h1, h2⟩ := decP_st l d x y acts
  rw [h2]
  rcases h1 with h1 | h1 <;> rw [h1]
  · exact chkO_nil h (by decide) (by decide) (by decide)
  · exact chkO_nil h (by decide) (by decide) (by decide)
theorem step_valid {l : Rl} {st : Int} {d : ByteArray} {ek ec ed : Int} (he : (stepI l st d ek ec ed).2.2.2 = 0) : chkO l (stepI l st d ek ec ed).1 (stepI l st d ek ec ed).2.1 = 0 := by
  obtain ⟨hc, hb, f, ht, hs⟩ := step_zero' he
  rw [hs]
  clear hs he
  have h := (chkO_range hc).1
  show chkO l (methI l st d ec ed f).1 (methI l st d ec ed f).2.1 = 0
  rcases tab_known ht with rfl | rfl | rfl | rfl | rfl | rfl | rfl | rfl | rfl | rfl
  · exact chkO_need (need_nil h)
  · exact hc
  · show chkO l (digI l d ed).1 (digI l d ed).2.1 = 0
    by_cases c : (anaI l (digD d ed) false).1 = 1
    · rw [show digI l d ed = (1, digD d ed, sil d ++ [⟨9, 0, ⟨#[]⟩, 10⟩]) from _root_.if_pos c]
      exact chkO_need c
    · rw [show digI l d ed = decP l (digD d ed) (anaI l (digD d ed) false).1 (anaI l (digD d ed) false).2.1 (sil d ++ [actK 10]) from _root_.if_neg c]
      exact decP_valid h _ _ _ _
  · show chkO l (timI l d).1 (timI l d).2.1 = 0
    by_cases c : d.size = 0
    · rw [show timI l d = (5, ⟨#[]⟩, [⟨3, 102, ⟨#[]⟩, 0⟩]) from _root_.if_pos c]
      exact chkO_nil h (by decide) (by decide) (by decide)
    · rw [show timI l d = decP l d (anaI l d true).1 (anaI l d true).2.1 [] from _root_.if_neg c]
      exact decP_valid h _ _ _ _
  · exact chkO_nil h (show (0 : Int) ≤ 0 by decide) (show (0 : Int) ≤ 5 by decide) (show (0 : Int) ≠ 1 by decide)
  · exact chkO_nil h (show (0 : Int) ≤ 3 by decide) (show (3 : Int) ≤ 5 by decide) (show (3 : Int) ≠ 1 by decide)
  · exact chkO_nil h (show (0 : Int) ≤ 4 by decide) (show (4 : Int) ≤ 5 by decide) (show (4 : Int) ≠ 1 by decide)
  · exact chkO_nil h (show (0 : Int) ≤ 5 by decide) (show (5 : Int) ≤ 5 by decide) (show (5 : Int) ≠ 1 by decide)
  · exact chkO_nil h (show (0 : Int) ≤ 0 by decide) (show (0 : Int) ≤ 5 by decide) (show (0 : Int) ≠ 1 by decide)
  · exact chkO_nil h (show (0 : Int) ≤ 0 by decide) (show (0 : Int) ≤ 5 by decide) (show (0 : Int) ≠ 1 by decide)
theorem dialE_valid (l : Rl) : ∀ (es : List S47) (st : Int) (d : ByteArray) (acts : Al), (chkO l st d = 0 ∨ es ≠ []) → (dialE l es st d acts).2.2.2 = 0 → chkO l (dialE l es st d acts).1 (dialE l es st d acts).2.1 = 0
  | [], st, d, acts, h, _ => h.resolve_right (fun hh => hh rfl)
  | e :: es, st, d, acts, _, he => by
    by_cases c : (stepI l st d e.f0 e.f1 e.f2).2.2.2 = 0
    · have e1 : dialE l (e :: es) st d acts = dialE l es (stepI l st d e.f0 e.f1 e.f2).1 (stepI l st d e.f0 e.f1 e.f2).2.1 (acts ++ (stepI l st d e.f0 e.f1 e.f2).2.2.1) := _root_.if_neg (fun hh => hh c)
      rw [e1] at he ⊢
      exact dialE_valid l es _ _ _ (.inl (step_valid c)) he
    · have e1 : dialE l (e :: es) st d acts = (0, ⟨#[]⟩, [], (stepI l st d e.f0 e.f1 e.f2).2.2.2) := _root_.if_pos c
      rw [e1] at he
      exact absurd he c
theorem dial_valid (l : Rl) (s : ByteArray) (he : (dialI l s).2.2.2 = 0) : chkO l (dialI l s).1 (dialI l s).2.1 = 0 :=
  dialE_valid l (evL s) 0 ⟨#[]⟩ [] (.inr (fun h => by cases h)) he
theorem dialE_size (l : Rl) : ∀ (es : List S47) (st : Int) (d : ByteArray) (acts : Al), d.size ≤ 21 → (dialE l es st d acts).2.1.size ≤ 21
  | [], st, d, acts, h => h
  | e :: es, st, d, acts, h => by
    by_cases c : (stepI l st d e.f0 e.f1 e.f2).2.2.2 = 0
    · rw [show dialE l (e :: es) st d acts = dialE l es (stepI l st d e.f0 e.f1 e.f2).1 (stepI l st d e.f0 e.f1 e.f2).2.1 (acts ++ (stepI l st d e.f0 e.f1 e.f2).2.2.1) from _root_.if_neg (fun hh => hh c)]
      exact dialE_size l es _ _ _ (step_size l st d _ _ _).1
    · rw [show dialE l (e :: es) st d acts = (0, ⟨#[]⟩, [], (stepI l st d e.f0 e.f1 e.f2).2.2.2) from _root_.if_pos c]
      exact (by decide : 0 ≤ 21)
/-- On-hook. -/
theorem hook_bad {l : Rl} {st : Int} {d : ByteArray} (h : chkO l st d ≠ 0) (ek ec ed : Int) : (stepI l st d ek ec ed).2.2.2 = chkO l st d := by
  rw [show stepI l st d ek ec ed = (0, ⟨#[]⟩, [], chkO l st d) from _root_.if_pos h]
theorem hook_idle {l : Rl} {d : ByteArray} (h : chkO l 0 d = 0) : (stepI l 0 d 2 0 0).2.2.2 = 160 := by
  rw [show stepI l 0 d 2 0 0 = (0, ⟨#[]⟩, [], 160) from (_root_.if_neg (fun hh => hh h)).trans ((_root_.if_neg (by decide)).trans rfl)]
theorem hook_ok {l : Rl} {st : Int} {d : ByteArray} (h : chkO l st d = 0) (h0 : st ≠ 0) : (stepI l st d 2 0 0).2.2.2 = 0 ∧ (stepI l st d 2 0 0).1 = 0 ∧ (stepI l st d 2 0 0).2.1 = ⟨#[]⟩ := by
  obtain ⟨_, g0, g5, _, _⟩ := chkO_range h
  have key : ∃ f, tabI st 2 = some f ∧ (f = 70 ∨ f = 74 ∨ f = 75) := by
    have h5 : st = 1 ∨ st = 2 ∨ st = 3 ∨ st = 4 ∨ st = 5 := by omega
    rcases h5 with rfl | rfl | rfl | rfl | rfl
    · exact ⟨_, rfl, .inl rfl⟩
    · exact ⟨_, rfl, .inr (.inl rfl)⟩
    · exact ⟨_, rfl, .inr (.inl rfl)⟩
    · exact ⟨_, rfl, .inr (.inl rfl)⟩
    · exact ⟨_, rfl, .inr (.inr rfl)⟩
  obtain ⟨f, ht, hf⟩ := key
  rw [show stepI l st d 2 0 0 = ((methI l st d 0 0 f).1, (methI l st d 0 0 f).2.1, (methI l st d 0 0 f).2.2, 0) from (_root_.if_neg (fun hh => hh h)).trans ((_root_.if_neg (by decide)).trans (by rw [ht]))]
  rcases hf with rfl | rfl | rfl
  · exact ⟨rfl, rfl, rfl⟩
  · exact ⟨rfl, rfl, rfl⟩
  · exact ⟨rfl, rfl, rfl⟩

theorem valid_pure (st : Int) (d : ByteArray) (l : Rl) (ek ec ed : Int) (s : ByteArray) : ∃ k, crossbarlaw16_OriginStaysValid.f k st d l ek ec ed s = some true := by
  refine Ev.rounds (g := fun k => crossbarlaw16_OriginStaysValid.f k st d l ek ec ed s) ?_
  unfold crossbarlaw16_OriginStaysValid.f
  refine Ev.bind (a := true) (Ev.done rfl) ?_
  refine Ev.if_pos rfl ?_
  obtain ⟨b, hb, hs⟩ := Few_ev l d
  have hb' : Ev (fun k => crossbarref16_Few.f k l d) b := by
    unfold crossbarref16_Few.f
    exact Ev.bind hb (Ev.now _)
  refine Ev.bind hb' ?_
  have skip : Ev (fun k => crossbarlaw16_OriginStaysValid.j0 k l s true st d ek ec ed) true := by
    refine Ev.step (fun k => crossbarlaw16_OriginStaysValid.j0.eq_2 _ _ _ _ _ _ _ _ k) ?_
    exact Ev.if_pos rfl (Ev.now _)
  cases b with
  | false => exact Ev.if_neg (by decide) skip
  | true =>
    obtain ⟨h80, h60⟩ := hs rfl
    refine Ev.if_pos rfl ?_
    by_cases h6 : (s.size : Int) > 60
    · rw [decide_eq_true h6]
      exact skip
    rw [decide_eq_false h6]
    have tail : ∀ z : Int × ByteArray, (chkO l st d = 0 → st ≠ 0 → z.1 = 0 ∧ z.2 = ⟨#[]⟩) → Ev (fun k => crossbarlaw16_OriginStaysValid.j1 k (stepI l st d 2 0 0).2.2.2 (chkO l st d) false st d z.1 z.2) true := by
      intro z hz
      refine Ev.step (fun k => crossbarlaw16_OriginStaysValid.j1.eq_2 _ _ _ _ _ _ _ k) ?_
      refine Ev.if_neg (by decide) ?_
      by_cases hc : chkO l st d = 0
      · refine Ev.if_pos hc ?_
        by_cases h0 : st = 0
        · refine Ev.if_pos h0 (Ev.done ?_)
          subst h0
          rw [hook_idle hc]
          rfl
        · refine Ev.if_neg h0 ?_
          refine Ev.if_pos (hook_ok hc h0).1 (Ev.done ?_)
          obtain ⟨z1, z2⟩ := hz hc h0
          rw [z1, z2]
          kernel_rfl
      · refine Ev.if_neg hc (Ev.done ?_)
        rw [hook_bad hc]
        exact beq_iff_eq.2 rfl
    have tail' := tail ((stepI l st d 2 0 0).1, (stepI l st d 2 0 0).2.1) (fun hc h0 => (hook_ok hc h0).2)
    refine Ev.step (fun k => crossbarlaw16_OriginStaysValid.j0.eq_2 _ _ _ _ _ _ _ _ k) ?_
    refine Ev.if_neg (by decide) ?_
    refine Ev.bind (Step_ev l st d ek ec ed (by omega)) ?_
    refine Ev.bind (Dial_ev l s (by omega)) ?_
    refine Ev.bind (Step_ev l st d 2 0 0 (by omega)) ?_
    refine Ev.bind (OCheck_ev l st d (by omega)) ?_
    have hse : (stepI l st d ek ec ed).2.1.size < 1000000 := Nat.lt_of_le_of_lt (step_size l st d ek ec ed).1 (by decide)
    have hde : (dialI l s).2.1.size < 1000000 := Nat.lt_of_le_of_lt (dialE_size l _ _ _ _ (by decide)) (by decide)
    have rest : Ev (fun k => if chkO l st d = 0 then (crossbarlaw16_OriginStaysValid.j1 k (stepI l st d 2 0 0).2.2.2 (chkO l st d) false st d (stepI l st d 2 0 0).1 (stepI l st d 2 0 0).2.1) else (crossbarlaw16_OriginStaysValid.j1 k (stepI l st d 2 0 0).2.2.2 (chkO l st d) ((stepI l st d ek ec ed).2.2.2 != chkO l st d) st d (stepI l st d 2 0 0).1 (stepI l st d 2 0 0).2.1)) true := by
      by_cases hc : chkO l st d = 0
      · exact Ev.if_pos hc tail'
      · refine Ev.if_neg hc ?_
        rw [show ((stepI l st d ek ec ed).2.2.2 != chkO l st d) = false by rw [hook_bad hc]; exact bne_self_eq_false _]
        exact tail'
    by_cases hf : (stepI l st d ek ec ed).2.2.2 = 0
    · refine Ev.if_pos hf ?_
      refine Ev.bind (OCheck_ev l _ _ hse) ?_
      refine Ev.if_pos (step_valid hf) ?_
      by_cases hg : (dialI l s).2.2.2 = 0
      · refine Ev.if_pos hg ?_
        refine Ev.bind (OCheck_ev l _ _ hde) ?_
        exact Ev.if_pos (dial_valid l s hg) rest
      · exact Ev.if_neg hg rest
    · refine Ev.if_neg hf ?_
      by_cases hg : (dialI l s).2.2.2 = 0
      · refine Ev.if_pos hg ?_
        refine Ev.bind (OCheck_ev l _ _ hde) ?_
        exact Ev.if_pos (dial_valid l s hg) rest
      · exact Ev.if_neg hg rest

end Go.Proofs.YthknfclhkmehgaaDoor.Fn
