/-
  PLAIN LAW: the reference's Few bounds what it lets in.
-/
import Derived.Test.YthknfclhkmehgaaDoorPSpec
import Derived.Test.YthknfclhkmehgaaDoorFn3
namespace Go.Proofs.YthknfclhkmehgaaDoor.Fn
open Go.RowKit Go.Proofs.YthknfclhkmehgaaDoorW.PrintWords Go.Proofs.YthknfclhkmehgaaDoorW.PrintLast Go.Proofs.YthknfclhkmehgaaDoorW.PrintMore
set_option linter.unusedVariables false
set_option linter.unusedSimpArgs false

theorem few_loop (l : Rl) (s : ByteArray) : ∀ (m i : Nat), 82 - i = m → i ≤ 81 → ∃ b, Ev (fun k => crossbarref08_Few.l0 k l s (i : Int)) b ∧ (b = true → l.length ≤ 80 ∧ s.size ≤ 60) := by
  have fin : ∀ i : Int, ∃ b, Ev (fun k => crossbarref08_Few.j1 k l s i false) b ∧ (b = true → l.length ≤ 80 ∧ s.size ≤ 60) := by
    intro i
    by_cases h : (l.length : Int) ≤ 80
    · refine ⟨decide ((s.size : Int) ≤ 60), Ev.step (fun k => crossbarref08_Few.j1.eq_2 _ _ _ _ k) (Ev.if_neg (by decide) (Ev.if_pos h (Ev.now _))), fun hb => ?_⟩
      have := of_decide_eq_true hb
      omega
    · exact ⟨false, Ev.step (fun k => crossbarref08_Few.j1.eq_2 _ _ _ _ k) (Ev.if_neg (by decide) (Ev.if_neg h (Ev.now _))), fun hb => by cases hb⟩
  intro m
  induction m with
  | zero => intro i hm hi; omega
  | succ m ih =>
    intro i hm hi
    by_cases h : (i : Int) < (l.length : Int)
    · by_cases h80 : (i : Int) ≤ 80
      · by_cases hb : ((rdR l (i : Int)).f0.size : Int) > 100
        · refine ⟨false, Ev.step (fun k => crossbarref08_Few.l0.eq_2 _ _ _ k) (Ev.if_pos h ?_), fun hb => by cases hb⟩
          rw [decide_eq_true h80]
          refine Ev.step (fun k => crossbarref08_Few.j1.eq_2 _ _ _ _ k) (Ev.if_pos rfl (Ev.if_pos (by omega) (Ev.if_pos h (Ev.if_pos hb (Ev.now _)))))
        · obtain ⟨b, h1, h2⟩ := ih (i + 1) (by omega) (by omega)
          refine ⟨b, Ev.step (fun k => crossbarref08_Few.l0.eq_2 _ _ _ k) (Ev.if_pos h ?_), h2⟩
          rw [decide_eq_true h80]
          refine Ev.step (fun k => crossbarref08_Few.j1.eq_2 _ _ _ _ k) (Ev.if_pos rfl (Ev.if_pos (by omega) (Ev.if_pos h (Ev.if_neg hb ?_))))
          rw [w64s (by omega)]
          exact h1
      · obtain ⟨b, h1, h2⟩ := fin (i : Int)
        refine ⟨b, Ev.step (fun k => crossbarref08_Few.l0.eq_2 _ _ _ k) (Ev.if_pos h ?_), h2⟩
        rw [decide_eq_false h80]
        exact h1
    · obtain ⟨b, h1, h2⟩ := fin (i : Int)
      exact ⟨b, Ev.step (fun k => crossbarref08_Few.l0.eq_2 _ _ _ k) (Ev.if_neg h h1), h2⟩
theorem Few_ev (l : Rl) (s : ByteArray) : ∃ b, Ev (fun k => crossbarref08_Few.f k l s) b ∧ (b = true → l.length ≤ 80 ∧ s.size ≤ 60) := few_loop l s 82 0 (by omega) (by omega)

end Go.Proofs.YthknfclhkmehgaaDoor.Fn
