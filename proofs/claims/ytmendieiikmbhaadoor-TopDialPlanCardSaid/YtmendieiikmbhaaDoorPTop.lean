/-
  PLAIN LAW: TopDialPlan's function answers true.
-/
import Derived.Test.YtmendieiikmbhaaDoorPDial
import Derived.Test.YtmendieiikmbhaaDoorFn28
namespace Go.Proofs.YtmendieiikmbhaaDoor.Fn
open Go.RowKit Go.Proofs.YtmendieiikmbhaaDoorW.PrintWords Go.Proofs.YtmendieiikmbhaaDoorW.PrintLast Go.Proofs.YtmendieiikmbhaaDoorW.PrintMore
set_option linter.unusedVariables false
set_option linter.unusedSimpArgs false

noncomputable def anaV (l : Rl) (s : ByteArray) : Int × Int × Int := if chkR l ≠ 0 then (0, 0, chkR l) else if digB s = false then (0, 0, 60) else ((overV l s).1, (overV l s).2, 0)
theorem Analyze_ev (l : Rl) (s : ByteArray) (hs : s.size ≤ 9223372036854775807) : Ev (fun k => dialplan_Analyze.f k l s false) (anaV l s) := by
  unfold dialplan_Analyze.f anaV
  by_cases h : chkR l = 0
  · refine Ev.bind (compile_ev h) ?_
    rw [_root_.if_neg (fun hh => hh h)]
    refine Ev.if_neg (by simp) ?_
    unfold dialplan_numeric.f
    rw [_root_.if_pos hs]
    refine Ev.bind (Ev.now _) ?_
    cases hd : digB s with
    | false =>
      rw [_root_.if_pos rfl]
      exact Ev.if_pos rfl (Ev.now _)
    | true =>
      rw [_root_.if_neg (by decide)]
      refine Ev.if_neg (by decide) ?_
      refine Ev.if_neg (by decide) ?_
      exact Ev.bind (overlap_ev h s hs) (Ev.now _)
  · refine Ev.bind (compile_bad h) ?_
    rw [_root_.if_pos h]
    exact Ev.if_pos h (Ev.now _)

theorem prefixes_loop {l : Rl} (h : chkR l = 0) : ∀ (m i : Nat), l.length - i = m → i ≤ l.length → Ev (fun k => crossbartop_prefixes.l0 k l (i : Int) (planT l i)) (planT l l.length, true) := by
  obtain ⟨hl, h64⟩ := chkR_zero h
  intro m
  induction m with
  | zero =>
    intro i hm hi
    obtain rfl : i = l.length := by omega
    refine Ev.step (fun k => crossbartop_prefixes.l0.eq_2 _ _ _ k) ?_
    exact Ev.if_neg (by omega) (Ev.now _)
  | succ m ih =>
    intro i hm hi
    have hil : i < l.length := by omega
    have hr := hl.each _ (List.getElem_mem hil)
    obtain ⟨g1, _⟩ := planT_step hl h64 hil (planT_ok hl h64 i (by omega))
    have hnext := ih (i + 1) (by omega) (by omega)
    refine Ev.step (fun k => crossbartop_prefixes.l0.eq_2 _ _ _ k) ?_
    refine Ev.if_pos (by omega) ?_
    refine Ev.if_pos (by omega) ?_
    have e : wrap64 ((i : Int) + 1) = (i : Int) + 1 := w64 (by omega) (by omega)
    rw [e]
    refine Ev.bind (Put_ev (planT l i) _ _ (by rw [rd_rule l i hil]; have := hr.hi; omega)) ?_
    refine Ev.if_pos g1 ?_
    have e2 : (((i + 1 : Nat)) : Int) = (i : Int) + 1 := by omega
    rw [e2] at hnext
    exact hnext
theorem prefixes_ev {l : Rl} (h : chkR l = 0) : Ev (fun k => crossbartop_prefixes.f k l) (planT l l.length, true) := by
  unfold crossbartop_prefixes.f
  refine Ev.bind (a := [z71]) (Ev.done rfl) ?_
  exact prefixes_loop h _ 0 rfl (Nat.zero_le _)

theorem nil_size (s : ByteArray) : s.toList = ([] : List UInt8) ↔ s.size = 0 := by
  rw [bytes_list, ← size_len]
  exact List.length_eq_zero_iff.symm

theorem overV_ext {l : Rl} {s : ByteArray} {v n : Int} {ok : Bool} (hL : longV (planT l l.length) s = (v, n, ok)) (hx : extV (planT l l.length) s = true) : overV l s = (1, v - 1) := by
  unfold overV
  rw [_root_.if_pos (.inl hx), hL]
theorem overV_found {l : Rl} {s : ByteArray} {v n : Int} (hL : longV (planT l l.length) s = (v, n, true)) (hx : extV (planT l l.length) s = false) : overV l s = (stO (rd_T61 l (v - 1)) s.size, v - 1) := by
  unfold overV
  rw [hL, _root_.if_neg (by simp [hx]), _root_.if_neg (by simp)]
theorem overV_empty {l : Rl} {s : ByteArray} {v n : Int} (hL : longV (planT l l.length) s = (v, n, false)) (h0 : s.size = 0) : overV l s = (1, v - 1) := by
  unfold overV
  rw [hL, _root_.if_pos (.inr ⟨rfl, h0⟩)]
theorem overV_none {l : Rl} {s : ByteArray} {v n : Int} (hL : longV (planT l l.length) s = (v, n, false)) (hx : extV (planT l l.length) s = false) (h0 : s.size ≠ 0) : overV l s = (3, -1) := by
  unfold overV
  rw [hL, _root_.if_neg (by simp [hx, h0]), _root_.if_pos rfl]

theorem top_j1 {l : Rl} (h : chkR l = 0) (s : ByteArray) (hs : s.size ≤ 40) : Ev (fun k => crossbartop_TopDialPlan.j1 k l s (longV (planT l l.length) s).2.2 false (overV l s).1 (overV l s).2 (planT l l.length)) true := by
  refine Ev.step (fun k => crossbartop_TopDialPlan.j1.eq_2 _ _ _ _ _ _ _ k) ?_
  refine Ev.if_neg (by decide) ?_
  refine Ev.bind (Ext_ev _ s (by omega)) ?_
  obtain ⟨⟨v, n, ok⟩, hL⟩ : ∃ q, longV (planT l l.length) s = q := ⟨_, rfl⟩
  cases hx : extV (planT l l.length) s with
  | true =>
    rw [overV_ext hL hx]
    exact Ev.if_pos rfl (Ev.now _)
  | false =>
    refine Ev.if_neg (by decide) ?_
    cases ok with
    | true =>
      rw [overV_found hL hx, hL]
      obtain ⟨j, hj, hv, hn, _⟩ := found_rule h hL
      refine Ev.if_pos rfl ?_
      refine Ev.if_pos (show 0 ≤ v - 1 by omega) ?_
      refine Ev.if_pos (show v - 1 < (l.length : Int) by omega) ?_
      dsimp only
      generalize rd_T61 l (v - 1) = r
      unfold stO
      by_cases h4 : r.f3 = 4
      · refine Ev.if_pos h4 (Ev.done ?_)
        rw [_root_.if_pos h4]
        rfl
      refine Ev.if_neg h4 ?_
      rw [_root_.if_neg h4]
      by_cases hg : (s.size : Int) > r.f2
      · refine Ev.if_pos hg (Ev.done ?_)
        rw [_root_.if_neg (by omega), _root_.if_neg (by omega)]
        rfl
      refine Ev.if_neg hg ?_
      by_cases hlt : (s.size : Int) < r.f2
      · rw [_root_.if_pos hlt, decide_eq_true hlt]
        refine Ev.if_pos rfl (Ev.done ?_)
        rw [show ((s.size : Int) == r.f2) = false from beq_eq_false_iff_ne.2 (by omega)]
        rfl
      · have he : (s.size : Int) = r.f2 := by omega
        rw [_root_.if_neg hlt, _root_.if_pos he, decide_eq_false hlt]
        refine Ev.if_pos rfl (Ev.done ?_)
        rw [show ((s.size : Int) == r.f2) = true from beq_iff_eq.2 he]
        rfl
    | false =>
      by_cases h0 : s.size = 0
      · rw [overV_empty hL h0, hL]
        refine Ev.if_neg (by simp) ?_
        refine Ev.if_pos rfl ?_
        exact Ev.if_pos ((nil_size s).2 h0) (Ev.now _)
      · rw [overV_none hL hx h0, hL]
        refine Ev.if_neg (by simp) ?_
        refine Ev.if_neg (by simp) ?_
        refine Ev.if_pos rfl (Ev.done ?_)
        exact bne_iff_ne.2 (fun e => h0 ((nil_size s).1 e))

theorem top_pure (l : Rl) (a1 : ByteArray) : ∃ k, crossbartop_TopDialPlan.f k l a1 = some true := by
  refine Ev.rounds (g := fun k => crossbartop_TopDialPlan.f k l a1) ?_
  unfold crossbartop_TopDialPlan.f
  refine Ev.bind (a := [z71]) (Ev.done rfl) ?_
  refine Ev.bind (Check_ok one_node.1) ?_
  refine Ev.if_pos rfl ?_
  have skip : Ev (fun k => crossbartop_TopDialPlan.j0 k l a1 true) true := by
    refine Ev.step (fun k => crossbartop_TopDialPlan.j0.eq_2 _ _ _ k) ?_
    exact Ev.if_pos rfl (Ev.now _)
  by_cases h64 : (l.length : Int) > 64
  · exact Ev.if_pos h64 skip
  refine Ev.if_neg h64 ?_
  by_cases h40 : (a1.size : Int) > 40
  · exact Ev.if_pos h40 skip
  refine Ev.if_neg h40 ?_
  refine Ev.bind (a := chkR l) (Ev.done rfl) ?_
  by_cases h : chkR l = 0
  · rw [h]
    refine Ev.step (fun k => crossbartop_TopDialPlan.j0.eq_2 _ _ _ k) ?_
    refine Ev.if_neg (by decide) ?_
    refine Ev.bind (Analyze_ev l a1 (by omega)) ?_
    unfold anaV
    rw [_root_.if_neg (fun hh => hh h)]
    cases hd : digB a1 with
    | false =>
      rw [_root_.if_pos rfl]
      exact Ev.if_neg (by decide) (Ev.now _)
    | true =>
      rw [_root_.if_neg (by decide)]
      refine Ev.if_pos rfl ?_
      refine Ev.bind (prefixes_ev h) ?_
      refine Ev.bind (Long_ev _ a1 (by omega)) ?_
      refine Ev.if_pos rfl ?_
      have hj1 := top_j1 h a1 (by omega)
      obtain ⟨⟨v, n, ok⟩, hL⟩ : ∃ q, longV (planT l l.length) a1 = q := ⟨_, rfl⟩
      have hov2 : (overV l a1).2 = v - 1 := by
        cases hx : extV (planT l l.length) a1 with
        | true => rw [overV_ext hL hx]
        | false =>
          cases ok with
          | true => rw [overV_found hL hx]
          | false =>
            have := unfound hL
            subst this
            by_cases h0 : a1.size = 0
            · rw [overV_empty hL h0]
            · rw [overV_none hL hx h0]
              rfl
      rw [hL] at hj1 ⊢
      cases ok with
      | true =>
        obtain ⟨j, hj, hv, hn, _⟩ := found_rule h hL
        have hw : wrap64 ((overV l a1).2 + 1) = v := by rw [hov2, w64 (by omega) (by omega)]; omega
        have hrd : (rd_T61 l (overV l a1).2).f0.size = (rd_T61 l (j : Int)).f0.size := by rw [hov2, show v - 1 = (j : Int) by omega]
        refine Ev.if_neg ?_ ?_
        · rw [decide_eq_true (show (overV l a1).2 ≥ 0 by rw [hov2]; omega)]
          simp
        refine Ev.if_pos rfl ?_
        refine Ev.if_pos hw.symm ?_
        have b1 : ¬ ((overV l a1).2 ≥ (l.length : Int)) := by rw [hov2]; omega
        have b2 : 0 ≤ (overV l a1).2 := by rw [hov2]; omega
        have b3 : (overV l a1).2 < (l.length : Int) := by rw [hov2]; omega
        refine Ev.if_neg b1 ?_
        refine Ev.if_pos b2 ?_
        refine Ev.if_pos b3 ?_
        rw [hrd, show ((n != (((rd_T61 l (j : Int)).f0.size : Nat) : Int))) = false by rw [hn]; exact bne_eq_false_iff_eq.2 rfl]
        exact hj1
      | false =>
        have := unfound hL
        subst this
        refine Ev.if_neg ?_ ?_
        · rw [decide_eq_false (show ¬ (overV l a1).2 ≥ 0 by rw [hov2]; decide)]
          simp
        refine Ev.if_neg (by simp) ?_
        exact hj1
  · rw [show (chkR l != 0) = true from bne_iff_ne.2 h]
    exact skip

end Go.Proofs.YtmendieiikmbhaaDoor.Fn
