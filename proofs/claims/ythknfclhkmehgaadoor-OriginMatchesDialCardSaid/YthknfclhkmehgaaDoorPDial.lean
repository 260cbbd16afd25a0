/-
  PLAIN LAW: what a dial plan compiles to: a trie that stores each prefix with its place.
-/
import Derived.Test.YthknfclhkmehgaaDoorPTrie
import Derived.Test.YthknfclhkmehgaaDoorEDial
namespace Go.Proofs.YthknfclhkmehgaaDoor.Fn
open Go.RowKit Go.Proofs.YthknfclhkmehgaaDoorW.PrintWords Go.Proofs.YthknfclhkmehgaaDoorW.PrintLast Go.Proofs.YthknfclhkmehgaaDoorW.PrintMore
set_option linter.unusedVariables false
set_option linter.unusedSimpArgs false

theorem hasS_iff {seen : List ByteArray} {s : ByteArray} : hasS seen s = true ↔ ∃ x ∈ seen, x.data.toList = s.data.toList := by
  unfold hasS
  rw [List.any_eq_true]
  exact ⟨fun ⟨x, h, e⟩ => ⟨x, h, beq_iff_eq.1 e⟩, fun ⟨x, h, e⟩ => ⟨x, h, beq_iff_eq.2 e⟩⟩

/-- A rule as it must be. -/
structure RuleOk (r : S35) : Prop where
  lo : 1 ≤ r.f0.size
  hi : r.f0.size ≤ 15
  dig : Tr.Dig r.f0.data.toList
  k1 : 1 ≤ r.f3
  k4 : r.f3 ≤ 4
  mn : (r.f0.size : Int) ≤ r.f1
  mx : r.f1 ≤ r.f2
  m20 : r.f2 ≤ 20
theorem badR_iff {r : S35} : badR r = false ↔ RuleOk r := by
  unfold badR
  simp only [Bool.or_eq_false_iff, decide_eq_false_iff_not, Bool.not_eq_false']
  constructor
  · rintro ⟨a, b, c, d, e, f, g, h⟩
    exact ⟨by omega, by omega, (digB_iff _).1 c, by omega, by omega, by omega, by omega, by omega⟩
  · rintro ⟨a, b, c, d, e, f, g, h⟩
    exact ⟨by omega, by omega, (digB_iff _).2 c, by omega, by omega, by omega, by omega, by omega⟩

/-- A list of rules that passes: each rule, and no prefix twice. -/
structure Rules (l : Rl) : Prop where
  each : ∀ r ∈ l, RuleOk r
  apart : l.Pairwise fun a b => a.f0.data.toList ≠ b.f0.data.toList
theorem chkL_zero : ∀ (l : Rl) (seen : List ByteArray), chkL l seen = 0 → Rules l ∧ ∀ r ∈ l, hasS seen r.f0 = false
  | [], seen, _ => ⟨⟨fun r hr => (List.not_mem_nil hr).elim, List.Pairwise.nil⟩, fun r hr => (List.not_mem_nil hr).elim⟩
  | r :: rs, seen, h => by
    rw [chkL] at h
    split at h
    · cases h
    · rename_i hb
      have hb1 : badR r = false := by
        cases hq : badR r with
        | false => rfl
        | true => exact absurd (.inl hq) hb
      have hb2 : hasS seen r.f0 = false := by
        cases hq : hasS seen r.f0 with
        | false => rfl
        | true => exact absurd (.inr hq) hb
      obtain ⟨h1, h2⟩ := chkL_zero rs (r.f0 :: seen) h
      have h3 : ∀ x ∈ rs, x.f0.data.toList ≠ r.f0.data.toList ∧ hasS seen x.f0 = false := by
        intro x hx
        have := h2 x hx
        unfold hasS at this
        rw [List.any_cons, Bool.or_eq_false_iff] at this
        exact ⟨fun e => beq_eq_false_iff_ne.1 this.1 e.symm, this.2⟩
      refine ⟨⟨fun x hx => ?_, List.pairwise_cons.2 ⟨fun x hx e => (h3 x hx).1 e.symm, h1.apart⟩⟩, fun x hx => ?_⟩
      · rcases List.mem_cons.1 hx with rfl | hx
        · exact badR_iff.1 hb1
        · exact h1.each x hx
      · rcases List.mem_cons.1 hx with rfl | hx
        · exact hb2
        · exact (h3 x hx).2
theorem chkR_zero {l : Rl} (h : chkR l = 0) : Rules l ∧ l.length ≤ 64 := by
  unfold chkR at h
  split at h
  · cases h
  · exact ⟨(chkL_zero l [] h).1, by omega⟩

/-- The trie of the first i rules. -/
noncomputable def planT (l : Rl) : Nat → Tl
  | 0 => [z77]
  | i + 1 => (putV (planT l i) (rd_T35 l (i : Int)).f0 ((i : Int) + 1)).1
structure PT (l : Rl) (i : Nat) (t : Tl) : Prop where
  ok : Ok t
  size : t.length ≤ 1 + 15 * i
  look : ∀ p, Tr.Dig p → (∃ j : Nat, j < i ∧ (rd_T35 l (j : Int)).f0.data.toList = p ∧ Tr.look (tt t) p = (j : Int) + 1) ∨ ((∀ j : Nat, j < i → (rd_T35 l (j : Int)).f0.data.toList ≠ p) ∧ Tr.look (tt t) p = 0)

theorem rd_rule (l : Rl) (j : Nat) (hj : j < l.length) : rd_T35 l (j : Int) = l[j] := by
  unfold rd_T35
  rw [Int.toNat_natCast, List.getD_eq_getElem?_getD, List.getElem?_eq_getElem hj]
  rfl

theorem one_node : Ok [z77] ∧ ∀ p, Tr.look (tt [z77]) p = 0 := by
  have hk : ∀ i d, Tr.kid [Tr.nul] i d = 0 := by
    intro i d
    rcases Nat.eq_zero_or_pos i with h | h
    · subst h; exact Tr.kid_nul d
    · exact Tr.kid_out (by simp; omega)
  have hv : ∀ i, Tr.val [Tr.nul] i = 0 := by
    intro i
    rcases Nat.eq_zero_or_pos i with h | h
    · subst h; rfl
    · exact Tr.val_out (by simp; omega)
  refine ⟨⟨?_, by simp⟩, fun p => ?_⟩
  · show Tr.Valid [Tr.nul]
    refine ⟨fun y hy => ?_, by simp, fun i _ => by rw [hv]; omega, fun i d h0 => absurd (hk i d) h0, fun i d j e h0 => absurd (hk i d) h0, fun k h0 h1 => ?_, ⟨fun _ => 0, rfl, fun i d h0 => absurd (hk i d) h0, fun i _ => Nat.zero_le _⟩⟩
    · rw [List.mem_singleton.1 hy]
      rfl
    · simp at h1
      omega
  · show Tr.look [Tr.nul] p = 0
    unfold Tr.look
    cases Tr.go [Tr.nul] 0 p with
    | none => rfl
    | some i => exact hv i

theorem planT_step {l : Rl} (hl : Rules l) (h64 : l.length ≤ 64) {i : Nat} (hi : i < l.length) {t : Tl} (h : PT l i t) :
    (putV t (rd_T35 l (i : Int)).f0 ((i : Int) + 1)).2 = 0 ∧ PT l (i + 1) (putV t (rd_T35 l (i : Int)).f0 ((i : Int) + 1)).1 := by
  have hr := hl.each _ (List.getElem_mem hi)
  rw [← rd_rule l i hi] at hr
  have hlen : (rd_T35 l (i : Int)).f0.data.toList.length ≤ 15 := by rw [size_len]; exact hr.hi
  have hp : PutOk t (rd_T35 l (i : Int)).f0 ((i : Int) + 1) := ⟨h.ok, hr.hi, hr.dig, by omega, by omega⟩
  have hsz := (Tr.put_size h.ok.1 hr.dig hlen ((i : Int) + 1)).2
  rw [tt_length] at hsz
  have h1 := h.size
  obtain ⟨g1, g2⟩ := putV_good hp (by omega)
  obtain ⟨_, g3⟩ := putV_okay g1
  refine ⟨g1, g3, ?_, fun p dp => ?_⟩
  · rw [← tt_length, g2]
    omega
  · rw [g2, Tr.put_look h.ok.1 hr.dig hlen _ dp]
    by_cases e : p = (rd_T35 l (i : Int)).f0.data.toList
    · rw [_root_.if_pos e]
      exact .inl ⟨i, by omega, e.symm, rfl⟩
    · rw [_root_.if_neg e]
      rcases h.look p dp with ⟨j, hj, h2, h3⟩ | ⟨h2, h3⟩
      · exact .inl ⟨j, by omega, h2, h3⟩
      · refine .inr ⟨fun j hj => ?_, h3⟩
        rcases Nat.lt_or_ge j i with hh | hh
        · exact h2 j hh
        · obtain rfl : j = i := by omega
          exact fun e' => e e'.symm
theorem planT_ok {l : Rl} (hl : Rules l) (h64 : l.length ≤ 64) : ∀ i, i ≤ l.length → PT l i (planT l i)
  | 0, _ => ⟨one_node.1, by simp [planT], fun p _ => .inr ⟨fun j hj => by omega, one_node.2 p⟩⟩
  | i + 1, hi => (planT_step hl h64 (by omega) (planT_ok hl h64 i (by omega))).2

theorem cmpL_ev {l : Rl} (hl : Rules l) (h64 : l.length ≤ 64) : ∀ (m i : Nat), l.length - i = m → i ≤ l.length → Ev (fun k => cmpL k (l.drop i) (i : Int) (planT l i)) (planT l l.length, 0) := by
  intro m
  induction m with
  | zero =>
    intro i hm hi
    obtain rfl : i = l.length := by omega
    rw [List.drop_length]
    exact Ev.now _
  | succ m ih =>
    intro i hm hi
    have hil : i < l.length := by omega
    have hr := hl.each _ (List.getElem_mem hil)
    obtain ⟨g1, _⟩ := planT_step hl h64 hil (planT_ok hl h64 i (by omega))
    rw [rd_rule l i hil] at g1
    have hnext := ih (i + 1) (by omega) (by omega)
    rw [List.drop_eq_getElem_cons hil]
    unfold cmpL
    refine Ev.bind (Put_ev (planT l i) _ _ (by have := hr.hi; omega)) ?_
    refine Ev.if_pos g1 ?_
    rw [show planT l (i + 1) = (putV (planT l i) (rd_T35 l (i : Int)).f0 ((i : Int) + 1)).1 from rfl, rd_rule l i hil] at hnext
    have e : (((i + 1 : Nat)) : Int) = (i : Int) + 1 := by omega
    rw [e] at hnext
    exact hnext
theorem compile_ev {l : Rl} (h : chkR l = 0) : Ev (fun k => compile.f k l) (planT l l.length, 0) := by
  obtain ⟨hl, h64⟩ := chkR_zero h
  unfold compile.f
  refine Ev.if_neg (by rw [h]; decide) ?_
  exact cmpL_ev hl h64 _ 0 rfl (Nat.zero_le _)
theorem compile_bad {l : Rl} (h : chkR l ≠ 0) : Ev (fun k => compile.f k l) ([], chkR l) := by
  unfold compile.f
  exact Ev.if_pos h (Ev.now _)

/-- What overlap answers: (state, rule). -/
theorem found_rule {l : Rl} (h : chkR l = 0) {s : ByteArray} {v n : Int} (hL : longV (planT l l.length) s = (v, n, true)) :
    ∃ j : Nat, j < l.length ∧ v = (j : Int) + 1 ∧ (((rd_T35 l (j : Int)).f0.size : Nat) : Int) = n ∧ (rd_T35 l (j : Int)).f0.data.toList <+: s.data.toList := by
  obtain ⟨hl, h64⟩ := chkR_zero h
  have hp := planT_ok hl h64 l.length (Nat.le_refl _)
  by_cases hd : Tr.Dig s.data.toList
  · rcases longV_of hp.ok hd with ⟨v', n', b, e⟩ | ⟨_, e⟩
    · rw [hL] at e
      simp only [Prod.mk.injEq, and_true] at e
      obtain ⟨rfl, rfl⟩ := e
      rcases hp.look (s.data.toList.take n') (fun b hb => hd b (List.mem_of_mem_take hb)) with ⟨j, hj, h2, h3⟩ | ⟨_, h3⟩
      · refine ⟨j, hj, b.eq.symm.trans h3, ?_, ?_⟩
        · have h4 := size_len (rd_T35 l (j : Int)).f0
          rw [h2, List.length_take] at h4
          have := b.le
          omega
        · rw [h2]
          exact List.take_prefix ..
      · rw [b.eq] at h3
        exact absurd h3 b.ne
    · rw [hL] at e
      cases e
  · rw [longV_bad (fun hh => hd hh.2)] at hL
    cases hL
theorem unfound {l : Rl} {s : ByteArray} {v n : Int} (hL : longV (planT l l.length) s = (v, n, false)) : v = 0 := by
  by_cases hd : Ok (planT l l.length) ∧ Tr.Dig s.data.toList
  · rcases longV_of hd.1 hd.2 with ⟨v', n', b, e⟩ | ⟨_, e⟩
    · rw [hL] at e; cases e
    · rw [hL] at e; cases e; rfl
  · rw [longV_bad hd] at hL; cases hL; rfl

noncomputable def overV (l : Rl) (s : ByteArray) : Int × Int :=
  if extV (planT l l.length) s = true ∨ ((longV (planT l l.length) s).2.2 = false ∧ s.size = 0) then (1, (longV (planT l l.length) s).1 - 1) else
    if (longV (planT l l.length) s).2.2 = false then (3, -1) else (stO (rd_T35 l ((longV (planT l l.length) s).1 - 1)) s.size, (longV (planT l l.length) s).1 - 1)
theorem overlap_ev {l : Rl} (h : chkR l = 0) (s : ByteArray) (hs : s.size ≤ 9223372036854775807) : Ev (fun k => overlap.f k (planT l l.length) l s) (overV l s) := by
  obtain ⟨hl, h64⟩ := chkR_zero h
  unfold overlap.f
  refine Ev.bind (Long_ev _ s hs) ?_
  refine Ev.bind (Ext_ev _ s hs) ?_
  unfold overV
  obtain ⟨⟨v, n, ok⟩, hL⟩ : ∃ q, longV (planT l l.length) s = q := ⟨_, rfl⟩
  rw [hL]
  refine ⟨0, fun k _ => ?_⟩
  cases ok with
  | false =>
    have hv := unfound hL
    subst hv
    show (if (0 : Int) ≤ 0 ∧ (0 : Int) ≤ 1099511627776 then (if extV (planT l l.length) s = true ∨ ((false : Bool) = false ∧ s.size = 0) then some ((1 : Int), (0 : Int) - 1) else if (false : Bool) = false then some (3, (0 : Int) - 1) else _) else _) = some (if extV (planT l l.length) s = true ∨ ((false : Bool) = false ∧ s.size = 0) then (1, (0 : Int) - 1) else if (false : Bool) = false then (3, -1) else _)
    rw [_root_.if_pos (by decide)]
    by_cases h1 : extV (planT l l.length) s = true ∨ ((false : Bool) = false ∧ s.size = 0)
    · rw [_root_.if_pos h1, _root_.if_pos h1]
    · rw [_root_.if_neg h1, _root_.if_neg h1, _root_.if_pos rfl, _root_.if_pos rfl]
      rfl
  | true =>
    obtain ⟨j, hj, hv, _, _⟩ := found_rule h hL
    show (if 0 ≤ v ∧ v ≤ 1099511627776 then (if extV (planT l l.length) s = true ∨ ((true : Bool) = false ∧ s.size = 0) then some ((1 : Int), v - 1) else if (true : Bool) = false then some (3, v - 1) else if 1 ≤ v ∧ v ≤ (l.length : Int) then some (stO (rd_T35 l (v - 1)) s.size, v - 1) else none) else none) = some (if extV (planT l l.length) s = true ∨ ((true : Bool) = false ∧ s.size = 0) then (1, v - 1) else if (true : Bool) = false then (3, -1) else (stO (rd_T35 l (v - 1)) s.size, v - 1))
    rw [_root_.if_pos (by omega)]
    by_cases h1 : extV (planT l l.length) s = true ∨ ((true : Bool) = false ∧ s.size = 0)
    · rw [_root_.if_pos h1, _root_.if_pos h1]
    · rw [_root_.if_neg h1, _root_.if_neg h1, _root_.if_neg (by decide), _root_.if_pos (by omega), _root_.if_neg (by decide)]

end Go.Proofs.YthknfclhkmehgaaDoor.Fn
