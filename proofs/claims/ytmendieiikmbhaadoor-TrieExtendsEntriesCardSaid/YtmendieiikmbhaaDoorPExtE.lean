/-
  PLAIN LAW: TrieExtendsEntries' function answers true.
-/
import Derived.Test.YtmendieiikmbhaaDoorPBuilt
import Derived.Test.YtmendieiikmbhaaDoorFn25
namespace Go.Proofs.YtmendieiikmbhaaDoor.Fn
open Go.RowKit Go.Proofs.YtmendieiikmbhaaDoorW.PrintWords Go.Proofs.YtmendieiikmbhaaDoorW.PrintLast Go.Proofs.YtmendieiikmbhaaDoorW.PrintMore
set_option linter.unusedVariables false
set_option linter.unusedSimpArgs false

def longer (kept : El) (s : ByteArray) (i : Nat) : Bool := (kept.take i).any fun e => decide (s.size < e.f0.size) && s.data.toList.isPrefixOf (fst e)
theorem extE_end {t : Tl} {kept : El} (h : KB t kept) (s : ByteArray) : extV t s = longer kept s kept.length := by
  have key : longer kept s kept.length = true ↔ ∃ e ∈ kept, ∃ q, q ≠ [] ∧ fst e = s.data.toList ++ q := by
    unfold longer
    rw [List.take_length, List.any_eq_true]
    constructor
    · rintro ⟨e, he, hh⟩
      simp only [Bool.and_eq_true, decide_eq_true_eq, List.isPrefixOf_iff_prefix] at hh
      obtain ⟨h1, q, hq⟩ := hh
      refine ⟨e, he, q, ?_, hq.symm⟩
      rintro rfl
      rw [List.append_nil] at hq
      have := size_len e.f0
      unfold fst at hq
      rw [← hq, size_len] at this
      omega
    · rintro ⟨e, he, q, hq, heq⟩
      refine ⟨e, he, ?_⟩
      simp only [Bool.and_eq_true, decide_eq_true_eq, List.isPrefixOf_iff_prefix]
      refine ⟨?_, q, heq.symm⟩
      have h1 := size_len e.f0
      have h2 := size_len s
      have h3 : (fst e).length = e.f0.size := h1
      rw [heq, List.length_append] at h3
      have := List.length_pos_iff.2 hq
      omega
  rw [Bool.eq_iff_iff, key]
  by_cases hd : Tr.Dig s.data.toList
  · rw [extV_iff h.ok hd]
    constructor
    · rintro ⟨e, he, q, hq, heq⟩
      obtain ⟨a, b, c⟩ := (Tr.mem_entries h.ok.1 e).1 he
      obtain ⟨x, hx, hxe⟩ := h.full e.1 a (by rw [b]; exact c)
      exact ⟨x, hx, q, hq, hxe.trans heq⟩
    · rintro ⟨e, he, q, hq, heq⟩
      obtain ⟨a, b, c⟩ := h.sound e he
      exact ⟨(fst e, e.f1), (Tr.mem_entries h.ok.1 _).2 ⟨a, b, c⟩, q, hq, heq⟩
  · rw [extV_bad (fun hh => hd hh.2)]
    constructor
    · intro h; cases h
    · rintro ⟨e, he, q, hq, heq⟩
      have := (h.sound e he).1
      rw [heq] at this
      exact absurd this.left hd

theorem longer_succ (kept : El) (s : ByteArray) (i : Nat) (hi : i < kept.length) : longer kept s (i + 1) = (longer kept s i || (decide (s.size < kept[i].f0.size) && s.data.toList.isPrefixOf (fst kept[i]))) := by
  unfold longer
  rw [List.take_succ_eq_append_getElem hi, List.any_append]
  simp

theorem extE_loop (t : Tl) (kept : El) (h : KB t kept) (h60 : kept.length ≤ 60) (s : ByteArray) (hs : s.size ≤ 40) : ∀ (m i : Nat), kept.length - i = m → i ≤ kept.length →
    Ev (fun k => crossbarlaw07_TrieExtendsEntries.l0 k s kept (longer kept s i) (i : Int) t) true := by
  intro m
  induction m with
  | zero =>
    intro i hm hi
    obtain rfl : i = kept.length := by omega
    refine Ev.step (fun k => crossbarlaw07_TrieExtendsEntries.l0.eq_2 _ _ _ _ _ k) ?_
    refine Ev.if_neg (by omega) ?_
    refine Ev.bind (Ext_ev t s (by omega)) ?_
    refine Ev.done ?_
    rw [extE_end h]
    exact beq_self_eq_true _
  | succ m ih =>
    intro i hm hi
    have hil : i < kept.length := by omega
    have hrd : rd_T39 kept (i : Int) = kept[i] := by
      unfold rd_T39
      rw [Int.toNat_natCast, List.getD_eq_getElem?_getD, List.getElem?_eq_getElem hil]
      rfl
    have hn := ih (i + 1) (by omega) (by omega)
    rw [longer_succ kept s i hil] at hn
    refine Ev.step (fun k => crossbarlaw07_TrieExtendsEntries.l0.eq_2 _ _ _ _ _ k) ?_
    refine Ev.if_pos (by omega) ?_
    cases hb : longer kept s i with
    | true =>
      rw [hb, Bool.true_or] at hn
      refine Ev.if_pos rfl ?_
      rw [w64s (by omega)]
      exact hn
    | false =>
      rw [hb, Bool.false_or] at hn
      refine Ev.if_neg (by decide) ?_
      refine Ev.if_pos (by omega) ?_
      rw [hrd, w64s (by omega)]
      by_cases hsz : (kept[i].f0.size : Int) > (s.size : Int)
      · rw [decide_eq_true (by omega : s.size < kept[i].f0.size), Bool.true_and] at hn
        refine Ev.if_pos hsz ?_
        rw [starts_ev]
        exact Ev.bind (Ev.now _) hn
      · rw [decide_eq_false (by omega : ¬ s.size < kept[i].f0.size), Bool.false_and] at hn
        exact Ev.if_neg hsz hn

theorem extE_pure (l : Ul) (a1 : ByteArray) : ∃ k, crossbarlaw07_TrieExtendsEntries.f k l a1 = some true := by
  refine Ev.rounds (g := fun k => crossbarlaw07_TrieExtendsEntries.f k l a1) ?_
  unfold crossbarlaw07_TrieExtendsEntries.f
  refine Ev.bind (a := true) (Ev.done rfl) ?_
  refine Ev.if_pos rfl ?_
  obtain ⟨b, hb, hbb⟩ := short_ev l
  refine Ev.bind hb ?_
  have skip : Ev (fun k => crossbarlaw07_TrieExtendsEntries.j0 k l a1 true) true := by
    refine Ev.step (fun k => crossbarlaw07_TrieExtendsEntries.j0.eq_2 _ _ _ k) ?_
    exact Ev.if_pos rfl (Ev.now _)
  cases b with
  | false => exact Ev.if_neg (by decide) skip
  | true =>
    refine Ev.if_pos rfl ?_
    by_cases h1 : (a1.size : Int) > 40
    · rw [decide_eq_true h1]
      exact skip
    rw [decide_eq_false h1]
    obtain ⟨u, kp, e1, e2, e3⟩ := built_ev l (hbb rfl)
    refine Ev.step (fun k => crossbarlaw07_TrieExtendsEntries.j0.eq_2 _ _ _ k) ?_
    refine Ev.if_neg (by decide) ?_
    refine Ev.bind e1 ?_
    exact extE_loop u kp e2 e3 a1 (by omega) _ 0 rfl (Nat.zero_le _)

end Go.Proofs.YtmendieiikmbhaaDoor.Fn
