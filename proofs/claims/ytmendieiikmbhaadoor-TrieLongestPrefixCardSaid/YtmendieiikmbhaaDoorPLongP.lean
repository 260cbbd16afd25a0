/-
  PLAIN LAW: TrieLongestPrefix' function answers true.
-/
import Derived.Test.YtmendieiikmbhaaDoorPBuilt
import Derived.Test.YtmendieiikmbhaaDoorPDigits
import Derived.Test.YtmendieiikmbhaaDoorFn22
namespace Go.Proofs.YtmendieiikmbhaaDoor.Fn
open Go.RowKit Go.Proofs.YtmendieiikmbhaaDoorW.PrintWords Go.Proofs.YtmendieiikmbhaaDoorW.PrintLast Go.Proofs.YtmendieiikmbhaaDoorW.PrintMore
set_option linter.unusedVariables false
set_option linter.unusedSimpArgs false

structure FB (kept : El) (s : ByteArray) (i : Nat) (found : Bool) (bp : ByteArray) (bv : Int) : Prop where
  none : found = false → ∀ (j : Nat) (hj : j < kept.length), j < i → ¬ (fst kept[j] <+: s.data.toList)
  here : found = true → ∃ e ∈ kept, e.f0 = bp ∧ e.f1 = bv ∧ fst e <+: s.data.toList
  top : found = true → ∀ (j : Nat) (hj : j < kept.length), j < i → fst kept[j] <+: s.data.toList → kept[j].f0.size ≤ bp.size

theorem longP_end {t : Tl} {kept : El} (h : KB t kept) {s : ByteArray} {found : Bool} {bp : ByteArray} {bv : Int} (hf : FB kept s kept.length found bp bv) :
    (found = true ∧ Tr.Dig s.data.toList → longV t s = (bv, (bp.size : Int), true)) ∧ (¬ (found = true ∧ Tr.Dig s.data.toList) → longV t s = (0, 0, false)) := by
  constructor
  · rintro ⟨hfd, hd⟩
    obtain ⟨e, he, rfl, rfl, q, hq⟩ := hf.here hfd
    obtain ⟨a, b, c⟩ := h.sound e he
    have hlen : (fst e).length = e.f0.size := size_len e.f0
    have hbest : Tr.Best (tt t) s.data.toList e.f1 e.f0.size := by
      refine ⟨?_, ?_, c, fun m hm hle => ?_⟩
      · rw [← hq, List.length_append]; omega
      · rw [← hq, ← hlen, List.take_left]; exact b
      · rcases Classical.em (Tr.look (tt t) (s.data.toList.take m) = 0) with h0 | h0
        · exact h0
        · obtain ⟨x, hx, hxe⟩ := h.full _ (fun b hb => hd b (List.mem_of_mem_take hb)) h0
          obtain ⟨j, hj, hje⟩ := List.mem_iff_getElem.1 hx
          have hpre : fst kept[j] <+: s.data.toList := by
            rw [hje, hxe]
            exact List.take_prefix ..
          have hle2 := hf.top hfd j hj hj hpre
          have hxl : (fst x).length = x.f0.size := size_len x.f0
          rw [hje] at hle2
          rw [hxe, List.length_take] at hxl
          omega
    rcases longV_of h.ok hd with ⟨v, n, b2, e2⟩ | ⟨b2, _⟩
    · obtain ⟨rfl, rfl⟩ := hbest.unique b2
      exact e2
    · exact (hbest.not_none b2).elim
  · intro hn
    by_cases hd : Tr.Dig s.data.toList
    · have hfd : found = false := by
        cases found with
        | false => rfl
        | true => exact absurd ⟨rfl, hd⟩ hn
      have hno : Tr.NoBest (tt t) s.data.toList := by
        intro m hm
        rcases Classical.em (Tr.look (tt t) (s.data.toList.take m) = 0) with h0 | h0
        · exact h0
        · obtain ⟨x, hx, hxe⟩ := h.full _ (fun b hb => hd b (List.mem_of_mem_take hb)) h0
          obtain ⟨j, hj, hje⟩ := List.mem_iff_getElem.1 hx
          refine absurd ?_ (hf.none hfd j hj hj)
          rw [hje, hxe]
          exact List.take_prefix ..
      rcases longV_of h.ok hd with ⟨v, n, b2, _⟩ | ⟨_, e2⟩
      · exact (b2.not_none hno).elim
      · exact e2
    · exact longV_bad fun hh => hd hh.2

theorem longP_loop (t : Tl) (kept : El) (h : KB t kept) (h60 : kept.length ≤ 60) (s : ByteArray) (hs : s.size ≤ 40) : ∀ (m i : Nat) (found : Bool) (bp : ByteArray) (bv : Int), kept.length - i = m → i ≤ kept.length → FB kept s i found bp bv →
    Ev (fun k => crossbarlaw07_TrieLongestPrefix.l0 k s kept found (i : Int) t bp bv) true := by
  intro m
  induction m with
  | zero =>
    intro i found bp bv hm hi hf
    obtain rfl : i = kept.length := by omega
    obtain ⟨e1, e2⟩ := longP_end h hf
    refine Ev.step (fun k => crossbarlaw07_TrieLongestPrefix.l0.eq_2 _ _ _ _ _ _ _ k) ?_
    refine Ev.if_neg (by omega) ?_
    refine Ev.bind (Long_ev t s (by omega)) ?_
    cases found with
    | true =>
      refine Ev.if_pos rfl ?_
      refine Ev.bind (Digits_ref s (by omega)) ?_
      cases hd : digB s with
      | true =>
        rw [e1 ⟨rfl, (digB_iff s).1 hd⟩]
        refine Ev.if_pos rfl ?_
        refine Ev.if_pos rfl ?_
        refine Ev.if_pos rfl ?_
        exact Ev.done (beq_self_eq_true _)
      | false =>
        rw [e2 (fun hh => by rw [(digB_iff s).2 hh.2] at hd; cases hd)]
        refine Ev.if_neg (by decide) ?_
        refine Ev.if_pos rfl ?_
        refine Ev.if_pos rfl ?_
        exact Ev.done rfl
    | false =>
      rw [e2 (fun hh => by cases hh.1)]
      refine Ev.if_neg (by decide) ?_
      refine Ev.if_pos rfl ?_
      refine Ev.if_pos rfl ?_
      exact Ev.done rfl
  | succ m ih =>
    intro i found bp bv hm hi hf
    have hil : i < kept.length := by omega
    have hrd : rd_T39 kept (i : Int) = kept[i] := by
      unfold rd_T39
      rw [Int.toNat_natCast, List.getD_eq_getElem?_getD, List.getElem?_eq_getElem hil]
      rfl
    refine Ev.step (fun k => crossbarlaw07_TrieLongestPrefix.l0.eq_2 _ _ _ _ _ _ _ k) ?_
    refine Ev.if_pos (by omega) ?_
    refine Ev.if_pos (by omega) ?_
    rw [hrd, w64s (by omega), starts_ev]
    refine Ev.bind (Ev.now _) ?_
    have lt_or : ∀ j, j < i + 1 → j < i ∨ j = i := fun j hj => by omega
    by_cases hp : fst kept[i] <+: s.data.toList
    · refine Ev.if_pos (List.isPrefixOf_iff_prefix.2 hp) ?_
      have take : (found = true → bp.size < kept[i].f0.size) → FB kept s (i + 1) true kept[i].f0 kept[i].f1 := by
        intro hlt
        refine ⟨fun hh => absurd hh (by decide), fun _ => ⟨kept[i], List.getElem_mem hil, rfl, rfl, hp⟩, fun _ j hj hji hpj => ?_⟩
        rcases lt_or j hji with hh | rfl
        · cases found with
          | true =>
            have := hf.top rfl j hj hh hpj
            have := hlt rfl
            omega
          | false => exact absurd hpj (hf.none rfl j hj hh)
        · exact Nat.le_refl _
      cases found with
      | true =>
        refine Ev.if_pos rfl ?_
        by_cases hsz : (kept[i].f0.size : Int) > (bp.size : Int)
        · exact Ev.if_pos hsz (ih (i + 1) _ _ _ (by omega) (by omega) (take (fun _ => by omega)))
        · refine Ev.if_neg hsz (ih (i + 1) _ _ _ (by omega) (by omega) ⟨fun hh => (by cases hh), hf.here, fun _ j hj hji hpj => ?_⟩)
          rcases lt_or j hji with hh | rfl
          · exact hf.top rfl j hj hh hpj
          · omega
      | false =>
        refine Ev.if_neg (by decide) ?_
        exact ih (i + 1) _ _ _ (by omega) (by omega) (take (fun hh => by cases hh))
    · refine Ev.if_neg (fun hh => hp (List.isPrefixOf_iff_prefix.1 hh)) ?_
      refine ih (i + 1) _ _ _ (by omega) (by omega) ⟨fun hfd j hj hji => ?_, hf.here, fun hfd j hj hji hpj => ?_⟩
      · rcases lt_or j hji with hh | rfl
        · exact hf.none hfd j hj hh
        · exact hp
      · rcases lt_or j hji with hh | rfl
        · exact hf.top hfd j hj hh hpj
        · exact absurd hpj hp

theorem longP_pure (l : Ul) (a1 : ByteArray) : ∃ k, crossbarlaw07_TrieLongestPrefix.f k l a1 = some true := by
  refine Ev.rounds (g := fun k => crossbarlaw07_TrieLongestPrefix.f k l a1) ?_
  unfold crossbarlaw07_TrieLongestPrefix.f
  refine Ev.bind (a := true) (Ev.done rfl) ?_
  refine Ev.if_pos rfl ?_
  obtain ⟨b, hb, hbb⟩ := short_ev l
  refine Ev.bind hb ?_
  have skip : Ev (fun k => crossbarlaw07_TrieLongestPrefix.j0 k l a1 true) true := by
    refine Ev.step (fun k => crossbarlaw07_TrieLongestPrefix.j0.eq_2 _ _ _ k) ?_
    exact Ev.if_pos rfl (Ev.now _)
  cases b with
  | false => exact Ev.if_neg (by decide) skip
  | true =>
    refine Ev.if_pos rfl ?_
    by_cases h1 : (a1.size : Int) > 40
    · rw [decide_eq_true h1]
      exact skip
    rw [decide_eq_false h1]
    obtain ⟨u, kp, e1, e2, e3⟩ := built_ev l (hbb rfl)
    refine Ev.step (fun k => crossbarlaw07_TrieLongestPrefix.j0.eq_2 _ _ _ k) ?_
    refine Ev.if_neg (by decide) ?_
    refine Ev.bind e1 ?_
    exact longP_loop u kp e2 e3 a1 (by omega) _ 0 false _ _ rfl (Nat.zero_le _) ⟨fun _ j _ hj => absurd hj (by omega), fun hh => absurd hh (by decide), fun hh => absurd hh (by decide)⟩

end Go.Proofs.YtmendieiikmbhaaDoor.Fn
