/-
  PLAIN LAW: what a script of updates builds: the trie, and beside it the list of what is stored.
-/
import Derived.Test.YtmendieiikmbhaaDoorPTrie
import Derived.Test.YtmendieiikmbhaaDoorFn21
import Derived.Test.YtmendieiikmbhaaDoorFn12x1
import Derived.Test.YtmendieiikmbhaaDoorFn12x3
namespace Go.Proofs.YtmendieiikmbhaaDoor.Fn
open Go.RowKit Go.Proofs.YtmendieiikmbhaaDoorW.PrintWords Go.Proofs.YtmendieiikmbhaaDoorW.PrintLast Go.Proofs.YtmendieiikmbhaaDoorW.PrintMore
set_option linter.unusedVariables false
set_option linter.unusedSimpArgs false

abbrev Ul := List S86

/-! ### short -/
def ShortUp (l : Ul) : Prop := l.length ≤ 60 ∧ ∀ j : Nat, j < l.length → (rd_T86 l (j : Int)).f0.size ≤ 40
theorem short_loop (l : Ul) : ∀ (m i : Nat), 100 - i = m → i ≤ 100 → (∀ j : Nat, j < i → j < l.length → (rd_T86 l (j : Int)).f0.size ≤ 40) →
    ∃ b, Ev (fun k => crossbarlaw07_short.l0 k l (i : Int)) b ∧ (b = true → ShortUp l) := by
  intro m
  induction m with
  | zero =>
    intro i hm hi h
    obtain rfl : i = 100 := by omega
    refine ⟨decide ((l.length : Int) ≤ 60), ?_, fun hb => ?_⟩
    · refine Ev.step (fun k => crossbarlaw07_short.l0.eq_2 _ _ k) ?_
      have e : Ev (fun k => crossbarlaw07_short.j1 k l 100 false) (decide ((l.length : Int) ≤ 60)) := by
        refine Ev.step (fun k => crossbarlaw07_short.j1.eq_2 _ _ _ k) ?_
        exact Ev.if_neg (by decide) (Ev.now _)
      by_cases hl : (100 : Int) < (l.length : Int)
      · exact Ev.if_pos hl e
      · exact Ev.if_neg hl e
    · have := of_decide_eq_true hb
      exact ⟨by omega, fun j hj => h j (by omega) hj⟩
  | succ m ih =>
    intro i hm hi h
    have stop : Ev (fun k => crossbarlaw07_short.j1 k l (i : Int) false) (decide ((l.length : Int) ≤ 60)) := by
      refine Ev.step (fun k => crossbarlaw07_short.j1.eq_2 _ _ _ k) ?_
      exact Ev.if_neg (by decide) (Ev.now _)
    by_cases hl : (i : Int) < (l.length : Int)
    · by_cases hs : ((rd_T86 l (i : Int)).f0.size : Int) > 40
      · refine ⟨false, ?_, fun hb => by cases hb⟩
        refine Ev.step (fun k => crossbarlaw07_short.l0.eq_2 _ _ k) ?_
        refine Ev.if_pos hl ?_
        rw [show decide ((i : Int) < 100) = true from decide_eq_true (by omega)]
        refine Ev.step (fun k => crossbarlaw07_short.j1.eq_2 _ _ _ k) ?_
        refine Ev.if_pos rfl ?_
        refine Ev.if_pos (by omega) ?_
        refine Ev.if_pos hl ?_
        exact Ev.if_pos hs (Ev.now _)
      · obtain ⟨b, hb, hbb⟩ := ih (i + 1) (by omega) (by omega) (fun j hj hjl => by
          rcases Nat.lt_or_ge j i with hh | hh
          · exact h j hh hjl
          · obtain rfl : j = i := by omega
            omega)
        refine ⟨b, ?_, hbb⟩
        refine Ev.step (fun k => crossbarlaw07_short.l0.eq_2 _ _ k) ?_
        refine Ev.if_pos hl ?_
        rw [show decide ((i : Int) < 100) = true from decide_eq_true (by omega)]
        refine Ev.step (fun k => crossbarlaw07_short.j1.eq_2 _ _ _ k) ?_
        refine Ev.if_pos rfl ?_
        refine Ev.if_pos (by omega) ?_
        refine Ev.if_pos hl ?_
        refine Ev.if_neg hs ?_
        rw [w64s (by omega)]
        exact hb
    · refine ⟨decide ((l.length : Int) ≤ 60), ?_, fun hb => ?_⟩
      · refine Ev.step (fun k => crossbarlaw07_short.l0.eq_2 _ _ k) ?_
        exact Ev.if_neg hl stop
      · have := of_decide_eq_true hb
        exact ⟨by omega, fun j hj => h j (by omega) hj⟩
theorem short_ev (l : Ul) : ∃ b, Ev (fun k => crossbarlaw07_short.f k l) b ∧ (b = true → ShortUp l) :=
  short_loop l 100 0 (by omega) (by omega) (fun j hj => by omega)

/-! ### starts -/
theorem starts_ev (a b : ByteArray) : crossbarlaw07_starts.f a b = some (b.data.toList.isPrefixOf a.data.toList) := by
  unfold crossbarlaw07_starts.f
  have ha := size_len a
  have hb := size_len b
  by_cases h : (a.size : Int) ≥ (b.size : Int)
  · rw [_root_.if_pos h, _root_.if_pos (by omega), _root_.if_pos (by omega)]
    congr 1
    rw [bytes_list, bytes_list, Int.toNat_natCast]
    have e : (a.extract 0 b.size).data.toList = a.data.toList.take b.size := by
      rw [ByteArray.data_extract, Array.toList_extract]
      simp [List.extract]
    rw [e, Bool.eq_iff_iff, beq_iff_eq, List.isPrefixOf_iff_prefix, List.prefix_iff_eq_take, hb]
    exact eq_comm
  · rw [_root_.if_neg h]
    congr 1
    symm
    rw [Bool.eq_false_iff]
    intro hp
    have := (List.isPrefixOf_iff_prefix.1 hp).length_le
    omega

/-! ### built -/
def fst (e : S39) : Tr.Str := e.f0.data.toList
structure KB (t : Tl) (kept : El) : Prop where
  ok : Ok t
  sound : ∀ e ∈ kept, Tr.Dig (fst e) ∧ Tr.look (tt t) (fst e) = e.f1 ∧ e.f1 ≠ 0
  full : ∀ p, Tr.Dig p → Tr.look (tt t) p ≠ 0 → ∃ e ∈ kept, fst e = p
  nodup : kept.Pairwise fun a b => fst a ≠ fst b

theorem kb_new : KB [z71] [] := by
  have hk : ∀ i d, Tr.kid [Tr.nul] i d = 0 := by
    intro i d
    rcases Nat.eq_zero_or_pos i with h | h
    · subst h; exact Tr.kid_nul d
    · exact Tr.kid_out (by simp; omega)
  have hv : ∀ i, Tr.val [Tr.nul] i = 0 := by
    intro i
    rcases Nat.eq_zero_or_pos i with h | h
    · subst h; rfl
    · exact Tr.val_out (by simp; omega)
  refine ⟨⟨?_, by simp⟩, fun e he => (List.not_mem_nil he).elim, fun p _ hp => ?_, List.Pairwise.nil⟩
  · show Tr.Valid [Tr.nul]
    refine ⟨fun y hy => ?_, by simp, fun i _ => by rw [hv]; omega, fun i d h0 => absurd (hk i d) h0, fun i d j e h0 => absurd (hk i d) h0, fun k h0 h1 => ?_, ⟨fun _ => 0, rfl, fun i d h0 => absurd (hk i d) h0, fun i _ => Nat.zero_le _⟩⟩
    · rw [List.mem_singleton.1 hy]
      rfl
    · simp at h1
      omega
  · refine absurd ?_ hp
    show Tr.look [Tr.nul] p = 0
    unfold Tr.look
    cases Tr.go [Tr.nul] 0 p with
    | none => rfl
    | some i => exact hv i

theorem mem_woV {x : El} {s : ByteArray} {e : S39} : e ∈ woV x s ↔ e ∈ x ∧ fst e ≠ s.data.toList := by
  unfold woV
  rw [List.mem_filter, Bool.not_eq_true', beq_eq_false_iff_ne]
  rfl

theorem kb_put {t u : Tl} {kept : El} {s : ByteArray} {v : Int} (h : KB t kept) (hp : PutOk t s v) (hu : tt u = Tr.put (tt t) s.data.toList v) (ok : Ok u) : KB u (woV kept s ++ [⟨s, v⟩]) := by
  have hl : s.data.toList.length ≤ 15 := by rw [size_len]; exact hp.len
  have lk : ∀ r, Tr.Dig r → Tr.look (tt u) r = if r = s.data.toList then v else Tr.look (tt t) r := fun r dr => by rw [hu]; exact Tr.put_look h.ok.1 hp.dig hl v dr
  refine ⟨ok, fun e he => ?_, fun p dp hne => ?_, ?_⟩
  · rcases List.mem_append.1 he with he | he
    · obtain ⟨h1, h2⟩ := mem_woV.1 he
      obtain ⟨a, b, c⟩ := h.sound e h1
      exact ⟨a, by rw [lk _ a, _root_.if_neg h2]; exact b, c⟩
    · rw [List.mem_singleton] at he
      subst he
      exact ⟨hp.dig, (lk s.data.toList hp.dig).trans (_root_.if_pos rfl), by have := hp.lo; show v ≠ 0; omega⟩
  · by_cases hps : p = s.data.toList
    · exact ⟨⟨s, v⟩, List.mem_append_right _ (List.mem_singleton.2 rfl), hps.symm⟩
    · rw [lk p dp, _root_.if_neg hps] at hne
      obtain ⟨e, he, hee⟩ := h.full p dp hne
      exact ⟨e, List.mem_append_left _ (mem_woV.2 ⟨he, by rw [hee]; exact hps⟩), hee⟩
  · rw [List.pairwise_append]
    refine ⟨List.Pairwise.filter _ h.nodup, List.pairwise_singleton .., fun a ha b hb => ?_⟩
    rw [List.mem_singleton] at hb
    subst hb
    exact (mem_woV.1 ha).2

theorem kb_drop {t u : Tl} {kept : El} {s : ByteArray} (h : KB t kept) (hd : Tr.Dig s.data.toList) (hu : tt u = Tr.drop (tt t) s.data.toList) (ok : Ok u) : KB u (woV kept s) := by
  have lk : ∀ r, Tr.Dig r → Tr.look (tt u) r = if r = s.data.toList then 0 else Tr.look (tt t) r := fun r dr => by rw [hu]; exact Tr.drop_look h.ok.1 hd dr
  refine ⟨ok, fun e he => ?_, fun p dp hne => ?_, List.Pairwise.filter _ h.nodup⟩
  · obtain ⟨h1, h2⟩ := mem_woV.1 he
    obtain ⟨a, b, c⟩ := h.sound e h1
    exact ⟨a, by rw [lk _ a, _root_.if_neg h2]; exact b, c⟩
  · by_cases hps : p = s.data.toList
    · rw [lk p dp, _root_.if_pos hps] at hne
      exact absurd rfl hne
    · rw [lk p dp, _root_.if_neg hps] at hne
      obtain ⟨e, he, hee⟩ := h.full p dp hne
      exact ⟨e, mem_woV.2 ⟨he, by rw [hee]; exact hps⟩, hee⟩

theorem built_loop (l : Ul) (hs : ShortUp l) : ∀ (m i : Nat) (t : Tl) (kept : El), l.length - i = m → i ≤ l.length → KB t kept → kept.length ≤ i →
    ∃ u kp, Ev (fun k => crossbarlaw07_built.l0 k l kept (i : Int) t) (u, kp) ∧ KB u kp ∧ kp.length ≤ 60 := by
  have h60 := hs.1
  intro m
  induction m with
  | zero =>
    intro i t kept hm hi h hk
    refine ⟨t, kept, ?_, h, by omega⟩
    refine Ev.step (fun k => crossbarlaw07_built.l0.eq_2 _ _ _ _ k) ?_
    exact Ev.if_neg (by omega) (Ev.now _)
  | succ m ih =>
    intro i t kept hm hi h hk
    have hil : i < l.length := by omega
    have hsz := hs.2 i hil
    generalize hs' : (rd_T86 l (i : Int)).f0 = s at hsz
    have hwl := woV_len kept s
    by_cases hv : (rd_T86 l (i : Int)).f1 > 0
    · by_cases h0 : (putV t s (rd_T86 l (i : Int)).f1).2 = 0
      · obtain ⟨hp, _⟩ := putV_zero h0
        obtain ⟨hu, ok⟩ := putV_okay h0
        obtain ⟨u, kp, e1, e2, e3⟩ := ih (i + 1) _ _ (by omega) (by omega) (kb_put h hp hu ok) (by rw [List.length_append, List.length_singleton]; omega)
        refine ⟨u, kp, ?_, e2, e3⟩
        refine Ev.step (fun k => crossbarlaw07_built.l0.eq_2 _ _ _ _ k) ?_
        refine Ev.if_pos (by omega) ?_
        refine Ev.if_pos (by omega) ?_
        refine Ev.if_pos hv ?_
        rw [hs']
        refine Ev.bind (Put_ev t s _ (by omega)) ?_
        refine Ev.step (fun k => crossbarlaw07_built.j1.eq_2 _ _ _ _ _ _ k) ?_
        refine Ev.if_pos h0 ?_
        refine Ev.if_pos (by omega) ?_
        refine Ev.if_pos (by omega) ?_
        rw [hs']
        refine Ev.bind (without_ev kept s (by omega)) ?_
        refine Ev.if_pos hv ?_
        refine Ev.if_pos (by omega) ?_
        rw [w64s (by omega)]
        exact e1
      · obtain ⟨u, kp, e1, e2, e3⟩ := ih (i + 1) t kept (by omega) (by omega) h (by omega)
        refine ⟨u, kp, ?_, e2, e3⟩
        refine Ev.step (fun k => crossbarlaw07_built.l0.eq_2 _ _ _ _ k) ?_
        refine Ev.if_pos (by omega) ?_
        refine Ev.if_pos (by omega) ?_
        refine Ev.if_pos hv ?_
        rw [hs']
        refine Ev.bind (Put_ev t s _ (by omega)) ?_
        refine Ev.step (fun k => crossbarlaw07_built.j1.eq_2 _ _ _ _ _ _ k) ?_
        refine Ev.if_neg h0 ?_
        rw [w64s (by omega)]
        exact e1
    · by_cases h0 : (dropV t s).2 = 0
      · obtain ⟨ok, hle, hd⟩ := dropV_zero h0
        obtain ⟨_, hu, ok'⟩ := dropV_okay ok hle hd
        obtain ⟨u, kp, e1, e2, e3⟩ := ih (i + 1) _ _ (by omega) (by omega) (kb_drop h hd hu ok') (by omega)
        refine ⟨u, kp, ?_, e2, e3⟩
        refine Ev.step (fun k => crossbarlaw07_built.l0.eq_2 _ _ _ _ k) ?_
        refine Ev.if_pos (by omega) ?_
        refine Ev.if_pos (by omega) ?_
        refine Ev.if_neg hv ?_
        rw [hs']
        refine Ev.bind (Drop_ev t s (by omega)) ?_
        refine Ev.step (fun k => crossbarlaw07_built.j1.eq_2 _ _ _ _ _ _ k) ?_
        refine Ev.if_pos h0 ?_
        refine Ev.if_pos (by omega) ?_
        refine Ev.if_pos (by omega) ?_
        rw [hs']
        refine Ev.bind (without_ev kept s (by omega)) ?_
        refine Ev.if_neg hv ?_
        rw [w64s (by omega)]
        exact e1
      · obtain ⟨u, kp, e1, e2, e3⟩ := ih (i + 1) t kept (by omega) (by omega) h (by omega)
        refine ⟨u, kp, ?_, e2, e3⟩
        refine Ev.step (fun k => crossbarlaw07_built.l0.eq_2 _ _ _ _ k) ?_
        refine Ev.if_pos (by omega) ?_
        refine Ev.if_pos (by omega) ?_
        refine Ev.if_neg hv ?_
        rw [hs']
        refine Ev.bind (Drop_ev t s (by omega)) ?_
        refine Ev.step (fun k => crossbarlaw07_built.j1.eq_2 _ _ _ _ _ _ k) ?_
        refine Ev.if_neg h0 ?_
        rw [w64s (by omega)]
        exact e1
theorem built_ev (l : Ul) (hs : ShortUp l) : ∃ u kp, Ev (fun k => crossbarlaw07_built.f k l) (u, kp) ∧ KB u kp ∧ kp.length ≤ 60 := by
  obtain ⟨u, kp, e1, e2, e3⟩ := built_loop l hs _ 0 _ [] rfl (Nat.zero_le _) kb_new (by simp)
  refine ⟨u, kp, ?_, e2, e3⟩
  unfold crossbarlaw07_built.f
  exact Ev.bind (a := [z71]) (Ev.done rfl) e1

end Go.Proofs.YtmendieiikmbhaaDoor.Fn
