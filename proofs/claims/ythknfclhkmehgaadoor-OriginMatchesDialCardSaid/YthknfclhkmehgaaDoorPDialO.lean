/-
  PLAIN LAW: what origin.Dial answers.
-/
import Derived.Test.YthknfclhkmehgaaDoorPOrig
import Derived.Test.YthknfclhkmehgaaDoorEOdial
namespace Go.Proofs.YthknfclhkmehgaaDoor.Fn
open Go.RowKit Go.Proofs.YthknfclhkmehgaaDoorW.PrintWords Go.Proofs.YthknfclhkmehgaaDoorW.PrintLast Go.Proofs.YthknfclhkmehgaaDoorW.PrintMore
set_option linter.unusedVariables false
set_option linter.unusedSimpArgs false

theorem decP_nil (l : Rl) (d : ByteArray) (x y : Int) (acts : Al) : (decP l d x y acts).2.1.size = 0 := by
  rcases decP_cases l d x y acts with e | e | e <;> rw [e] <;> rfl
theorem decP_len2 (l : Rl) (d : ByteArray) (x y : Int) (acts : Al) : (decP l d x y acts).2.2.length ≤ acts.length + 2 := by
  rcases decP_cases l d x y acts with e | e | e <;> rw [e] <;> simp
/-- Whatever Step answers, its digits are few, and so are its actions. -/
theorem step_size (l : Rl) (st : Int) (d : ByteArray) (ek ec ed : Int) : (stepI l st d ek ec ed).2.1.size ≤ 21 ∧ (stepI l st d ek ec ed).2.2.1.length ≤ 4 := by
  unfold stepI
  by_cases h : chkO l st d = 0
  · rw [_root_.if_neg (fun hh => hh h)]
    obtain ⟨_, _, _, h1, h2⟩ := chkO_range h
    have hd : d.size ≤ 20 := by
      by_cases c : st = 1
      · exact (h1 c).2.2
      · have := h2 c
        omega
    cases hb : badE ek ec ed with
    | true => rw [_root_.if_pos rfl]; exact ⟨by decide, by decide⟩
    | false =>
      rw [_root_.if_neg (by decide)]
      cases ht : tabI st ek with
      | none => exact ⟨(by decide : 0 ≤ 21), (by decide : 0 ≤ 4)⟩
      | some f =>
        show (methI l st d ec ed f).2.1.size ≤ 21 ∧ (methI l st d ec ed f).2.2.length ≤ 4
        rcases tab_known ht with rfl | rfl | rfl | rfl | rfl | rfl | rfl | rfl | rfl | rfl
        · exact ⟨(by decide : 0 ≤ 21), (by decide : 2 ≤ 4)⟩
        · exact ⟨Nat.le_succ_of_le hd, (by decide : 0 ≤ 4)⟩
        · obtain ⟨_, rfl⟩ := tab_dig ht
          obtain ⟨g0, g1⟩ := badE_dig hb
          have hsl : (sil d).length ≤ 1 := by
            unfold sil
            split <;> simp
          show (digI l d ed).2.1.size ≤ 21 ∧ (digI l d ed).2.2.length ≤ 4
          unfold digI
          split
          · refine ⟨?_, ?_⟩
            · show (digD d ed).size ≤ 21
              rw [digD_size g0 g1]
              omega
            · show (sil d ++ [_]).length ≤ 4
              rw [List.length_append]
              simp
              omega
          · refine ⟨by rw [decP_nil]; omega, Nat.le_trans (decP_len2 _ _ _ _ _) ?_⟩
            rw [List.length_append]
            simp
            omega
        · show (timI l d).2.1.size ≤ 21 ∧ (timI l d).2.2.length ≤ 4
          unfold timI
          split
          · exact ⟨(by decide : 0 ≤ 21), (by decide : 1 ≤ 4)⟩
          · exact ⟨by rw [decP_nil]; omega, Nat.le_trans (decP_len2 _ _ _ _ _) (by decide)⟩
        · exact ⟨(by decide : 0 ≤ 21), (by decide : 2 ≤ 4)⟩
        · exact ⟨(by decide : 0 ≤ 21), (by decide : 1 ≤ 4)⟩
        · exact ⟨(by decide : 0 ≤ 21), (by decide : 2 ≤ 4)⟩
        · exact ⟨(by decide : 0 ≤ 21), (by decide : 1 ≤ 4)⟩
        · exact ⟨(by decide : 0 ≤ 21), (by decide : 2 ≤ 4)⟩
        · exact ⟨(by decide : 0 ≤ 21), (by decide : 1 ≤ 4)⟩
  · rw [_root_.if_pos h]
    exact ⟨(by decide : 0 ≤ 21), (by decide : 0 ≤ 4)⟩

def dialE (l : Rl) : List S47 → Int → ByteArray → Al → O4
  | [], st, d, acts => (st, d, acts, 0)
  | e :: es, st, d, acts => if (stepI l st d e.f0 e.f1 e.f2).2.2.2 ≠ 0 then (0, ⟨#[]⟩, [], (stepI l st d e.f0 e.f1 e.f2).2.2.2) else dialE l es (stepI l st d e.f0 e.f1 e.f2).1 (stepI l st d e.f0 e.f1 e.f2).2.1 (acts ++ (stepI l st d e.f0 e.f1 e.f2).2.2.1)
/-- What Dial answers. -/
def dialI (l : Rl) (s : ByteArray) : O4 := dialE l (evL s) 0 ⟨#[]⟩ []
theorem dialE_ev (l : Rl) : ∀ (es : List S47) (st : Int) (d : ByteArray) (acts : Al), d.size ≤ 21 → acts.length + 4 * es.length < 1000000 → Ev (fun k => dialL k l es st d acts) (dialE l es st d acts)
  | [], st, d, acts, _, _ => Ev.now _
  | e :: es, st, d, acts, hd, hl => by
    unfold dialL dialE
    refine Ev.bind (Step_ev l st d e.f0 e.f1 e.f2 (by omega)) ?_
    obtain ⟨h1, h2⟩ := step_size l st d e.f0 e.f1 e.f2
    rw [List.length_cons] at hl
    by_cases c : (stepI l st d e.f0 e.f1 e.f2).2.2.2 = 0
    · rw [_root_.if_neg (fun hh => hh c)]
      refine Ev.if_neg (fun hh => hh c) ?_
      refine Ev.if_pos (by omega) ?_
      exact dialE_ev l es _ _ _ h1 (by rw [List.length_append]; omega)
    · rw [_root_.if_pos c]
      exact Ev.if_pos c (Ev.now _)
theorem Dial_ev (l : Rl) (s : ByteArray) (hs : s.size ≤ 1000) : Ev (fun k => origin_Dial.f k l s) (dialI l s) := by
  unfold origin_Dial.f dialI
  refine Ev.if_pos (by omega) ?_
  exact dialE_ev l _ _ _ _ (by decide) (by rw [evL_length]; simp; omega)

end Go.Proofs.YthknfclhkmehgaaDoor.Fn
