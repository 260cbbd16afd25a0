/-
  PLAIN LAW: a reversed list of rules answers the same, but for the rule's place.
-/
import Derived.Test.YthknfclhkmehgaaDoorPFew
namespace Go.Proofs.YthknfclhkmehgaaDoor.Fn
open Go.RowKit Go.Proofs.YthknfclhkmehgaaDoorW.PrintWords Go.Proofs.YthknfclhkmehgaaDoorW.PrintLast Go.Proofs.YthknfclhkmehgaaDoorW.PrintMore
set_option linter.unusedVariables false
set_option linter.unusedSimpArgs false

theorem chkL_cases : ∀ (l : Rl) (seen : List ByteArray), chkL l seen = 0 ∨ chkL l seen = 80
  | [], _ => .inl rfl
  | r :: rs, seen => by
    rw [chkL]
    split
    · exact .inr rfl
    · exact chkL_cases rs _
theorem chkL_of : ∀ (l : Rl) (seen : List ByteArray), Rules l → (∀ r ∈ l, hasS seen r.f0 = false) → chkL l seen = 0
  | [], _, _, _ => rfl
  | r :: rs, seen, h, hs => by
    have hb : badR r = false := badR_iff.2 (h.each r List.mem_cons_self)
    have hq : hasS seen r.f0 = false := hs r List.mem_cons_self
    rw [chkL, if_neg (by rw [hb, hq]; decide)]
    obtain ⟨p1, p2⟩ := List.pairwise_cons.1 h.apart
    refine chkL_of rs _ ⟨fun x hx => h.each x (List.mem_cons_of_mem _ hx), p2⟩ (fun x hx => ?_)
    have h1 := hs x (List.mem_cons_of_mem _ hx)
    unfold hasS at h1 ⊢
    rw [List.any_cons, h1, Bool.or_false]
    exact beq_eq_false_iff_ne.2 (p1 x hx)
theorem Rules.reverse {l : Rl} (h : Rules l) : Rules l.reverse :=
  ⟨fun r hr => h.each r (List.mem_reverse.1 hr), List.pairwise_reverse.2 (h.apart.imp (fun hab e => hab e.symm))⟩
theorem chkR_reverse (l : Rl) : chkR l.reverse = chkR l := by
  unfold chkR
  rw [List.length_reverse]
  split
  · rfl
  · rcases chkL_cases l [] with h | h
    · rw [h]
      exact chkL_of _ _ (chkL_zero l [] h).1.reverse (fun r _ => rfl)
    · rw [h]
      rcases chkL_cases l.reverse [] with h2 | h2
      · have h3 := (chkL_zero _ [] h2).1.reverse
        rw [List.reverse_reverse] at h3
        rw [chkL_of l [] h3 (fun r _ => rfl)] at h
        cases h
      · exact h2
theorem rdR_reverse (l : Rl) (j : Nat) (hj : j < l.length) : rdR l.reverse (j : Int) = rdR l ((l.length - 1 - j : Nat) : Int) := by
  unfold rdR
  rw [rd_rule l.reverse j (by rw [List.length_reverse]; exact hj), rd_rule l (l.length - 1 - j) (by omega), List.getElem_reverse]
def turnI (l : Rl) (r : Int) : Int := if r < 0 then -1 else (l.length : Int) - 1 - r
theorem BI.reverse {l : Rl} {s : ByteArray} {r : Int} (h : BI l s l.length r) : BI l.reverse s l.reverse.length (turnI l r) := by
  rw [List.length_reverse]
  cases h with
  | none h =>
    refine .none (fun j hj => ?_)
    rw [rdR_reverse l j hj]
    exact h _ (by omega)
  | some j hj hb h =>
    have e : turnI l (j : Int) = ((l.length - 1 - j : Nat) : Int) := by
      unfold turnI
      rw [if_neg (by omega)]
      omega
    rw [e]
    have e2 : l.length - 1 - (l.length - 1 - j) = j := by omega
    refine .some (l.length - 1 - j) (by omega) ?_ (fun j' hj' hb' => ?_)
    · rw [rdR_reverse l _ (by omega), e2]
      exact hb
    · rw [rdR_reverse l j' hj'] at hb' ⊢
      rw [rdR_reverse l (l.length - 1 - j) (by omega), e2]
      exact h _ (by omega) hb'
theorem bestR_reverse {l : Rl} (h : chkR l = 0) (s : ByteArray) : bestR l.reverse s = turnI l (bestR l s) := by
  obtain ⟨hl, _⟩ := chkR_zero h
  exact BI.unique hl.reverse (bestI_is l.reverse s l.reverse.length) (bestI_is l s l.length).reverse
theorem extR_reverse (l : Rl) (s : ByteArray) : extR l.reverse s = extR l s := by
  unfold extR
  rw [List.any_reverse]
theorem turn_rd {l : Rl} (s : ByteArray) {j : Nat} (hj : j < l.length) : rdR l.reverse (turnI l (j : Int)) = rdR l (j : Int) := by
  have e : turnI l (j : Int) = ((l.length - 1 - j : Nat) : Int) := by
    unfold turnI
    rw [if_neg (by omega)]
    omega
  rw [e, rdR_reverse l _ (by omega), show l.length - 1 - (l.length - 1 - j) = j by omega]
theorem overI_reverse {l : Rl} (h : chkR l = 0) (s : ByteArray) : (overI l.reverse s).1 = (overI l s).1 := by
  unfold overI
  rw [extR_reverse, bestR_reverse h]
  rcases bestR_cases l s with hb | ⟨j, hj, hb⟩
  · rw [hb]
    rfl
  · rw [hb, turn_rd s hj]
    have e : ¬ turnI l (j : Int) < 0 := by unfold turnI; rw [if_neg (by omega)]; omega
    by_cases hc : extR l s = true
    · rw [if_pos (.inl hc), if_pos (.inl hc)]
    · have n1 : ¬ (extR l s = true ∨ (turnI l (j : Int) < 0 ∧ s.size = 0)) := fun hh => hh.elim hc (fun q => e q.1)
      have n2 : ¬ (extR l s = true ∨ ((j : Int) < 0 ∧ s.size = 0)) := fun hh => hh.elim hc (fun q => by omega)
      rw [if_neg n1, if_neg n2, if_neg e, if_neg (by omega)]
theorem blocI_reverse {l : Rl} (h : chkR l = 0) (s : ByteArray) : (blocI l.reverse s).1 = (blocI l s).1 := by
  unfold blocI
  rw [bestR_reverse h]
  rcases bestR_cases l s with hb | ⟨j, hj, hb⟩
  · rw [hb]
    rfl
  · rw [hb, turn_rd s hj]
    have e : ¬ turnI l (j : Int) < 0 := by unfold turnI; rw [if_neg (by omega)]; omega
    rw [if_neg e, if_neg (by omega)]
/-- Both analyses: the state, and the rule turned. -/
def stI (l : Rl) (s : ByteArray) (fin : Bool) : Int := if fin = true then (blocI l s).1 else (overI l s).1
theorem anaI_ok {l : Rl} (h : chkR l = 0) {s : ByteArray} (hd : digB s = true) (fin : Bool) : anaI l s fin = (stI l s fin, bestR l s, 0) := by
  cases fin with
  | true => exact anaI_bloc h hd
  | false => exact anaI_over h hd
theorem stI_reverse {l : Rl} (h : chkR l = 0) (s : ByteArray) (fin : Bool) : stI l.reverse s fin = stI l s fin := by
  unfold stI
  rw [blocI_reverse h, overI_reverse h]
/-- Complete: the rule's kind and bounds. -/
theorem stI_two {l : Rl} (h : chkR l = 0) {s : ByteArray} {fin : Bool} (h2 : stI l s fin = 2) : ∃ j : Nat, j < l.length ∧ bestR l s = (j : Int) ∧ (rdR l (j : Int)).f3 ≠ 4 ∧ (rdR l (j : Int)).f1 ≤ (s.size : Int) ∧ (s.size : Int) ≤ (rdR l (j : Int)).f2 ∧ (fin = true ∨ (s.size : Int) = (rdR l (j : Int)).f2) := by
  obtain ⟨hl, _⟩ := chkR_zero h
  rcases bestR_cases l s with hb | ⟨j, hj, hb⟩
  · exfalso
    unfold stI blocI overI at h2
    rw [hb] at h2
    cases fin with
    | true => simp at h2
    | false =>
      simp only [Bool.false_eq_true, if_false] at h2
      split at h2
      · simp at h2
      · simp at h2
  · refine ⟨j, hj, hb, ?_⟩
    have ro : RuleOk (rdR l (j : Int)) := by
      unfold rdR
      rw [rd_rule l j hj]
      exact hl.each _ (List.getElem_mem hj)
    have mx := ro.mx
    unfold stI blocI overI at h2
    rw [hb, if_neg (show ¬ ((j : Int) < 0) by omega)] at h2
    cases fin with
    | true =>
      rw [if_pos rfl] at h2
      dsimp only at h2
      unfold stB at h2
      split at h2
      · rename_i hc
        exact ⟨by omega, hc.2.1, hc.2.2, .inl rfl⟩
      · cases h2
    | false =>
      rw [if_neg (by decide)] at h2
      split at h2
      · cases h2
      · rw [if_neg (show ¬ ((j : Int) < 0) by omega)] at h2
        unfold stO at h2
        split at h2
        · cases h2
        · rename_i h4
          split at h2
          · cases h2
          · split at h2
            · rename_i he
              exact ⟨h4, by omega, by omega, .inr he⟩
            · cases h2

end Go.Proofs.YthknfclhkmehgaaDoor.Fn
