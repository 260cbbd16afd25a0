/-
  PLAIN LAW: DialplanFeedStopsFirst's function answers true.
-/
import Derived.Test.YtmendieiikmbhaaDoorPFew
import Derived.Test.YtmendieiikmbhaaDoorFn29x1
namespace Go.Proofs.YtmendieiikmbhaaDoor.Fn
open Go.RowKit Go.Proofs.YtmendieiikmbhaaDoorW.PrintWords Go.Proofs.YtmendieiikmbhaaDoorW.PrintLast Go.Proofs.YtmendieiikmbhaaDoorW.PrintMore
set_option linter.unusedVariables false
set_option linter.unusedSimpArgs false

theorem feedI_is (l : Rl) (s : ByteArray) : ∀ n u, u + n = s.size → ∃ v : Nat, u ≤ v ∧ v ≤ s.size ∧ feedI l s n u = ((v : Int), (overI l (s.extract 0 v)).1, (overI l (s.extract 0 v)).2) ∧ (v < s.size → (overI l (s.extract 0 v)).1 ≠ 1) ∧ ∀ w, u ≤ w → w < v → (overI l (s.extract 0 w)).1 = 1
  | 0, u, h => ⟨u, Nat.le_refl _, by omega, rfl, fun hv => absurd hv (by omega), fun w h1 h2 => absurd h2 (by omega)⟩
  | n + 1, u, h => by
    unfold feedI
    by_cases h1 : (overI l (s.extract 0 u)).1 = 1
    · rw [if_pos h1]
      obtain ⟨v, a, b, c, d, e⟩ := feedI_is l s n (u + 1) (by omega)
      refine ⟨v, by omega, b, c, d, fun w h2 h3 => ?_⟩
      rcases Nat.lt_or_ge u w with hh | hh
      · exact e w (by omega) h3
      · obtain rfl : w = u := by omega
        exact h1
    · rw [if_neg h1]
      exact ⟨u, Nat.le_refl _, by omega, rfl, fun _ => h1, fun w h2 h3 => absurd h3 (by omega)⟩
theorem dig_ext {s : ByteArray} (hd : digB s = true) (u : Nat) : digB (s.extract 0 u) = true := by
  rw [digB_iff] at hd ⊢
  rw [extract_list]
  exact fun b hb => hd b (List.mem_of_mem_take hb)
theorem ana_ext {l : Rl} (h : chkR l = 0) {s : ByteArray} (hd : digB s = true) (u : Nat) : anaI l (s.extract 0 u) false = ((overI l (s.extract 0 u)).1, (overI l (s.extract 0 u)).2, 0) := by
  rw [anaI_over h (dig_ext hd u), overI_two]
theorem ext_size (s : ByteArray) (u : Nat) : (s.extract 0 u).size ≤ s.size := by
  have h1 := size_len (s.extract 0 u)
  have h2 := size_len s
  rw [extract_list, List.length_take] at h1
  omega
theorem feed_loop {l : Rl} (h : chkR l = 0) {s : ByteArray} (hs : s.size ≤ 60) (hd : digB s = true) (v : Nat) (hv : v ≤ s.size) (hw : ∀ w, w < v → (overI l (s.extract 0 w)).1 = 1) : ∀ (m i : Nat), v - i = m → i ≤ v →
    Ev (fun k => crossbarlaw08_DialplanFeedStopsFirst.l0 k l s (v : Int) (v : Int) (i : Int) (overI l (s.extract 0 v)).1 (overI l (s.extract 0 v)).2) true := by
  intro m
  induction m with
  | zero =>
    intro i hm hi
    obtain rfl : i = v := by omega
    refine Ev.step (fun k => crossbarlaw08_DialplanFeedStopsFirst.l0.eq_2 _ _ _ _ _ _ _ k) ?_
    refine Ev.if_neg (by omega) ?_
    refine Ev.if_pos (by omega) ?_
    refine Ev.if_pos (by omega) ?_
    rw [Int.toNat_natCast]
    refine Ev.bind (Analyze_evI l _ false (by have := ext_size s i; omega)) ?_
    rw [ana_ext h hd]
    refine Ev.if_pos rfl ?_
    exact Ev.done (by simp)
  | succ m ih =>
    intro i hm hi
    refine Ev.step (fun k => crossbarlaw08_DialplanFeedStopsFirst.l0.eq_2 _ _ _ _ _ _ _ k) ?_
    refine Ev.if_pos (by omega) ?_
    refine Ev.if_pos (by omega) ?_
    refine Ev.if_pos (by omega) ?_
    rw [Int.toNat_natCast]
    refine Ev.bind (Analyze_evI l _ false (by have := ext_size s i; omega)) ?_
    rw [ana_ext h hd]
    refine Ev.if_pos rfl ?_
    refine Ev.if_pos (hw i (by omega)) ?_
    rw [w64s (by omega)]
    exact ih (i + 1) (by omega) (by omega)
theorem feed_pure (l : Rl) (a1 : ByteArray) : ∃ k, crossbarlaw08_DialplanFeedStopsFirst.f k l a1 = some true := by
  refine Ev.rounds (g := fun k => crossbarlaw08_DialplanFeedStopsFirst.f k l a1) ?_
  unfold crossbarlaw08_DialplanFeedStopsFirst.f
  refine Ev.bind (a := true) (Ev.done rfl) ?_
  refine Ev.if_pos rfl ?_
  obtain ⟨b, hb, hs⟩ := Few_ev l a1
  refine Ev.bind hb ?_
  cases b with
  | false => exact Ev.if_neg (by decide) (Ev.now _)
  | true =>
    obtain ⟨h80, h60⟩ := hs rfl
    refine Ev.if_pos rfl ?_
    refine Ev.bind (Feed_ev l a1 (by omega)) ?_
    unfold feedV
    by_cases h : chkR l = 0
    · rw [_root_.if_neg (fun hh => hh h)]
      cases hd : digB a1 with
      | false =>
        rw [_root_.if_pos rfl]
        refine Ev.if_neg (by decide) ?_
        refine Ev.if_pos rfl ?_
        exact Ev.done rfl
      | true =>
        rw [_root_.if_neg (fun hh => by cases hh)]
        refine Ev.if_pos rfl ?_
        obtain ⟨v, c1, c2, c3, c4, c5⟩ := feedI_is l a1 a1.size 0 (by omega)
        rw [c3]
        dsimp only
        refine Ev.if_neg (by omega) ?_
        refine Ev.if_neg (by omega) ?_
        have main : Ev (fun k => crossbarlaw08_DialplanFeedStopsFirst.j0 k l a1 (v : Int) false (overI l (a1.extract 0 v)).1 (overI l (a1.extract 0 v)).2) true := by
          refine Ev.step (fun k => crossbarlaw08_DialplanFeedStopsFirst.j0.eq_2 _ _ _ _ _ _ k) ?_
          refine Ev.if_neg (by decide) ?_
          exact feed_loop h h60 hd v c2 (fun w hw => c5 w (Nat.zero_le _) hw) v 0 (by omega) (by omega)
        by_cases hlt : (v : Int) < (a1.size : Int)
        · refine Ev.if_pos hlt ?_
          rw [show ((overI l (a1.extract 0 v)).1 == 1) = false from beq_eq_false_iff_ne.2 (c4 (by omega))]
          exact main
        · exact Ev.if_neg hlt main
    · rw [_root_.if_pos h]
      refine Ev.if_neg h ?_
      refine Ev.if_pos rfl ?_
      exact Ev.done rfl

end Go.Proofs.YtmendieiikmbhaaDoor.Fn
