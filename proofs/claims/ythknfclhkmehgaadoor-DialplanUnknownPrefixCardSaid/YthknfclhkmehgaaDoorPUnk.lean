/-
  PLAIN LAW: DialplanUnknownPrefix' function answers true.
-/
import Derived.Test.YthknfclhkmehgaaDoorPFew
import Derived.Test.YthknfclhkmehgaaDoorEMat
import Derived.Test.YthknfclhkmehgaaDoorFn8
namespace Go.Proofs.YthknfclhkmehgaaDoor.Fn
open Go.RowKit Go.Proofs.YthknfclhkmehgaaDoorW.PrintWords Go.Proofs.YthknfclhkmehgaaDoorW.PrintLast Go.Proofs.YthknfclhkmehgaaDoorW.PrintMore
set_option linter.unusedVariables false
set_option linter.unusedSimpArgs false

theorem any_best (l : Rl) (s : ByteArray) : decide (bestR l s ≥ 0) = matB (l.map fun r => r.f0) s := by
  have hbi := bestI_is l s l.length
  unfold bestR
  obtain ⟨b, hb⟩ : ∃ b, bestI l s l.length = b := ⟨_, rfl⟩
  rw [hb] at hbi ⊢
  unfold matB
  rw [List.any_map]
  cases hbi with
  | none h =>
    rw [decide_eq_false (by decide), eq_comm, Bool.eq_false_iff]
    intro hh
    obtain ⟨r, hr, hp⟩ := List.any_eq_true.1 hh
    obtain ⟨j, hj, rfl⟩ := List.getElem_of_mem hr
    have h1 := h j hj
    unfold rdR at h1
    rw [rd_rule l j hj] at h1
    exact absurd (h1.symm.trans hp) (by decide)
  | some j hj hp h =>
    rw [decide_eq_true (by omega), eq_comm, List.any_eq_true]
    refine ⟨l[j], List.getElem_mem hj, ?_⟩
    unfold rdR at hp
    rw [rd_rule l j hj] at hp
    exact hp
theorem unk_loop {l : Rl} (h : chkR l = 0) (s : ByteArray) (hs : s.size ≤ 60) : ∀ (m i : Nat), l.length - i = m → i ≤ l.length →
    Ev (fun k => crossbarlaw08_DialplanUnknownPrefix.l0 k s ((l.take i).map fun r => r.f0) l (l.length : Int) (i : Int) (blocI l s).1 (bestR l s)) true := by
  obtain ⟨hl, h64⟩ := chkR_zero h
  intro m
  induction m with
  | zero =>
    intro i hm hi
    obtain rfl : i = l.length := by omega
    rw [List.take_length]
    refine Ev.step (fun k => crossbarlaw08_DialplanUnknownPrefix.l0.eq_2 _ _ _ _ _ _ _ k) ?_
    refine Ev.if_neg (by omega) ?_
    refine Ev.bind (a := matB (l.map fun r => r.f0) s) (Ev.done rfl) ?_
    rw [any_best]
    refine Ev.if_pos (beq_iff_eq.2 rfl) ?_
    rcases bestR_cases l s with hb | ⟨j, hj, hb⟩
    · refine Ev.if_neg (by omega) (Ev.done ?_)
      unfold blocI
      rw [if_pos (by omega)]
      rfl
    · exact Ev.if_pos (by omega) (Ev.now _)
  | succ m ih =>
    intro i hm hi
    have hil : i < l.length := by omega
    have hnext := ih (i + 1) (by omega) (by omega)
    rw [List.take_succ_eq_append_getElem hil, List.map_append] at hnext
    refine Ev.step (fun k => crossbarlaw08_DialplanUnknownPrefix.l0.eq_2 _ _ _ _ _ _ _ k) ?_
    refine Ev.if_pos (by omega) ?_
    refine Ev.if_pos (by omega) ?_
    refine Ev.if_pos (by omega) ?_
    refine Ev.if_pos (by rw [List.length_map, List.length_take]; omega) ?_
    rw [rd_rule l i hil, w64s (by omega)]
    exact hnext
theorem unk_pure (l : Rl) (a1 : ByteArray) : ∃ k, crossbarlaw08_DialplanUnknownPrefix.f k l a1 = some true := by
  refine Ev.rounds (g := fun k => crossbarlaw08_DialplanUnknownPrefix.f k l a1) ?_
  unfold crossbarlaw08_DialplanUnknownPrefix.f
  refine Ev.bind (a := true) (Ev.done rfl) ?_
  refine Ev.if_pos rfl ?_
  obtain ⟨b, hb, hs⟩ := Few_ev l a1
  refine Ev.bind hb ?_
  cases b with
  | false => exact Ev.if_neg (by decide) (Ev.now _)
  | true =>
    obtain ⟨h80, h60⟩ := hs rfl
    refine Ev.if_pos rfl ?_
    refine Ev.bind (Analyze_evI l a1 true (by omega)) ?_
    by_cases h : chkR l = 0
    · cases hd : digB a1 with
      | false =>
        rw [anaI_nodig h hd]
        exact Ev.if_neg (by decide) (Ev.done rfl)
      | true =>
        rw [anaI_bloc h hd]
        refine Ev.if_pos rfl ?_
        exact unk_loop h a1 h60 l.length 0 (by omega) (by omega)
    · rw [anaI_bad h]
      exact Ev.if_neg h (Ev.done rfl)

end Go.Proofs.YthknfclhkmehgaaDoor.Fn
