/-
  PLAIN LAW: what Analyze answers, told by the rules alone: the longest prefix among them.
-/
import Derived.Test.YthknfclhkmehgaaDoorPDial
import Derived.Test.YthknfclhkmehgaaDoorEDial
namespace Go.Proofs.YthknfclhkmehgaaDoor.Fn
open Go.RowKit Go.Proofs.YthknfclhkmehgaaDoorW.PrintWords Go.Proofs.YthknfclhkmehgaaDoorW.PrintLast Go.Proofs.YthknfclhkmehgaaDoorW.PrintMore
set_option linter.unusedVariables false
set_option linter.unusedSimpArgs false

abbrev rdR (l : Rl) (i : Int) : S35 := rd_T35 l i
def begB (s p : ByteArray) : Bool := p.data.toList.isPrefixOf s.data.toList
/-- The applicable one among the first i rules, or -1. -/
def bestI (l : Rl) (s : ByteArray) : Nat → Int
  | 0 => -1
  | i + 1 => if begB s (rdR l (i : Int)).f0 && (decide (bestI l s i < 0) || decide ((rdR l (bestI l s i)).f0.size < (rdR l (i : Int)).f0.size)) then (i : Int) else bestI l s i
def bestR (l : Rl) (s : ByteArray) : Int := bestI l s l.length
/-- Whether a prefix properly extends the digits. -/
def extR (l : Rl) (s : ByteArray) : Bool := l.any fun r => begB r.f0 s && decide (s.size < r.f0.size)

inductive BI (l : Rl) (s : ByteArray) (i : Nat) : Int → Prop
  | none (h : ∀ j : Nat, j < i → begB s (rdR l (j : Int)).f0 = false) : BI l s i (-1)
  | some (j : Nat) (hj : j < i) (hb : begB s (rdR l (j : Int)).f0 = true) (h : ∀ j' : Nat, j' < i → begB s (rdR l (j' : Int)).f0 = true → (rdR l (j' : Int)).f0.size ≤ (rdR l (j : Int)).f0.size) : BI l s i (j : Int)
theorem bestI_is (l : Rl) (s : ByteArray) : ∀ i, BI l s i (bestI l s i)
  | 0 => .none (fun j hj => absurd hj (by omega))
  | i + 1 => by
    have ih := bestI_is l s i
    unfold bestI
    obtain ⟨b, hb⟩ : ∃ b, bestI l s i = b := ⟨_, rfl⟩
    rw [hb] at ih ⊢
    cases ih with
    | none h =>
      cases hc : begB s (rdR l (i : Int)).f0 with
      | true =>
        rw [show (true && (decide ((-1 : Int) < 0) || decide ((rdR l (-1)).f0.size < (rdR l (i : Int)).f0.size))) = true from rfl, if_pos rfl]
        refine .some i (by omega) hc (fun j' hj' hb' => ?_)
        rcases Nat.lt_or_ge j' i with hh | hh
        · rw [h j' hh] at hb'; cases hb'
        · obtain rfl : j' = i := by omega
          exact Nat.le_refl _
      | false =>
        rw [Bool.false_and, if_neg (by decide)]
        refine .none (fun j hj => ?_)
        rcases Nat.lt_or_ge j i with hh | hh
        · exact h j hh
        · obtain rfl : j = i := by omega
          exact hc
    | some j hj hbj h =>
      cases hc : begB s (rdR l (i : Int)).f0 with
      | true =>
        by_cases hlt : (rdR l (j : Int)).f0.size < (rdR l (i : Int)).f0.size
        · rw [decide_eq_true hlt, Bool.or_true, Bool.and_true, if_pos rfl]
          refine .some i (by omega) hc (fun j' hj' hb' => ?_)
          rcases Nat.lt_or_ge j' i with hh | hh
          · exact Nat.le_of_lt (Nat.lt_of_le_of_lt (h j' hh hb') hlt)
          · obtain rfl : j' = i := by omega
            exact Nat.le_refl _
        · rw [decide_eq_false hlt, decide_eq_false (show ¬ ((j : Int) < 0) by omega), Bool.or_false, Bool.and_false, if_neg (by decide)]
          refine .some j (by omega) hbj (fun j' hj' hb' => ?_)
          rcases Nat.lt_or_ge j' i with hh | hh
          · exact h j' hh hb'
          · obtain rfl : j' = i := by omega
            omega
      | false =>
        rw [Bool.false_and, if_neg (by decide)]
        refine .some j (by omega) hbj (fun j' hj' hb' => ?_)
        rcases Nat.lt_or_ge j' i with hh | hh
        · exact h j' hh hb'
        · obtain rfl : j' = i := by omega
          rw [hc] at hb'; cases hb'
theorem begB_iff {s p : ByteArray} : begB s p = true ↔ p.data.toList <+: s.data.toList := List.isPrefixOf_iff_prefix
theorem begB_take {s p : ByteArray} (h : begB s p = true) : p.data.toList = s.data.toList.take p.size ∧ p.size ≤ s.data.toList.length := by
  have h1 := begB_iff.1 h
  have h2 := List.prefix_iff_eq_take.1 h1
  rw [size_len] at h2
  exact ⟨h2, by rw [← size_len]; exact h1.length_le⟩

theorem apart_eq {l : Rl} (hl : Rules l) {i j : Nat} (hi : i < l.length) (hj : j < l.length) (h : (rdR l (i : Int)).f0.data.toList = (rdR l (j : Int)).f0.data.toList) : i = j := by
  unfold rdR at h
  rw [rd_rule l i hi, rd_rule l j hj] at h
  rcases Nat.lt_trichotomy i j with h1 | h1 | h1
  · exact absurd h (List.pairwise_iff_getElem.1 hl.apart i j hi hj h1)
  · exact h1
  · exact absurd h.symm (List.pairwise_iff_getElem.1 hl.apart j i hj hi h1)
/-- Two that are best are the same. -/
theorem BI.unique {l : Rl} (hl : Rules l) {s : ByteArray} {r r' : Int} (h : BI l s l.length r) (h' : BI l s l.length r') : r = r' := by
  cases h with
  | none h =>
    cases h' with
    | none _ => rfl
    | some j hj hb _ => rw [h j hj] at hb; cases hb
  | some j hj hb h =>
    cases h' with
    | none h' => rw [h' j hj] at hb; cases hb
    | some j' hj' hb' h' =>
      have h1 := h j' hj' hb'
      have h2 := h' j hj hb
      have e : (rdR l (j : Int)).f0.data.toList = (rdR l (j' : Int)).f0.data.toList := by
        rw [(begB_take hb).1, (begB_take hb').1, show (rdR l (j : Int)).f0.size = (rdR l (j' : Int)).f0.size by omega]
      rw [apart_eq hl hj hj' e]

theorem long_best {l : Rl} (h : chkR l = 0) {s : ByteArray} (hd : Tr.Dig s.data.toList) : (bestR l s = -1 ∧ longV (planT l l.length) s = (0, 0, false)) ∨ (∃ j : Nat, j < l.length ∧ bestR l s = (j : Int) ∧ longV (planT l l.length) s = ((j : Int) + 1, (((rdR l (j : Int)).f0.size : Nat) : Int), true)) := by
  obtain ⟨hl, h64⟩ := chkR_zero h
  have hp := planT_ok hl h64 l.length (Nat.le_refl _)
  have hbi := bestI_is l s l.length
  rcases longV_of hp.ok hd with ⟨v, n, b, e⟩ | ⟨nb, e⟩
  · right
    rcases hp.look (s.data.toList.take n) (fun b hb => hd b (List.mem_of_mem_take hb)) with ⟨j, hj, h2, h3⟩ | ⟨_, h3⟩
    · have hbj : begB s (rdR l (j : Int)).f0 = true := by
        rw [begB_iff]
        show (rd_T35 l (j : Int)).f0.data.toList <+: _
        rw [h2]
        exact List.take_prefix ..
      have hsz : (rdR l (j : Int)).f0.size = n := by
        have h4 := size_len (rd_T35 l (j : Int)).f0
        rw [h2, List.length_take] at h4
        have := b.le
        show (rd_T35 l (j : Int)).f0.size = n
        omega
      refine ⟨j, hj, ?_, ?_⟩
      · refine BI.unique hl hbi (.some j hj hbj (fun j' hj' hb' => ?_))
        rw [hsz]
        refine Nat.not_lt.1 (fun hlt => ?_)
        obtain ⟨t1, t2⟩ := begB_take hb'
        have h5 := b.top _ hlt t2
        rcases hp.look (s.data.toList.take (rdR l (j' : Int)).f0.size) (fun b hb => hd b (List.mem_of_mem_take hb)) with ⟨q, _, _, h6⟩ | ⟨h6, _⟩
        · rw [h6] at h5; omega
        · exact h6 j' hj' t1
      · rw [e, hsz, show v = (j : Int) + 1 from b.eq.symm.trans h3]
    · rw [b.eq] at h3
      exact absurd h3 b.ne
  · left
    refine ⟨BI.unique hl hbi (.none (fun j hj => ?_)), e⟩
    cases hb : begB s (rdR l (j : Int)).f0 with
    | false => rfl
    | true =>
      obtain ⟨t1, t2⟩ := begB_take hb
      have h5 := nb _ t2
      rcases hp.look (s.data.toList.take (rdR l (j : Int)).f0.size) (fun b hb => hd b (List.mem_of_mem_take hb)) with ⟨q, _, _, h6⟩ | ⟨h6, _⟩
      · rw [h6] at h5; omega
      · exact absurd t1 (h6 j hj)

theorem ext_best {l : Rl} (h : chkR l = 0) {s : ByteArray} (hd : Tr.Dig s.data.toList) : extV (planT l l.length) s = extR l s := by
  obtain ⟨hl, h64⟩ := chkR_zero h
  have hp := planT_ok hl h64 l.length (Nat.le_refl _)
  rw [Bool.eq_iff_iff, extV_iff hp.ok hd]
  unfold extR
  rw [List.any_eq_true]
  constructor
  · rintro ⟨e, he, q, hq, heq⟩
    obtain ⟨d1, d2, d3⟩ := (Tr.mem_entries hp.ok.1 e).1 he
    rcases hp.look e.1 d1 with ⟨j, hj, h2, _⟩ | ⟨_, h3⟩
    · refine ⟨l[j], List.getElem_mem hj, ?_⟩
      rw [rd_rule l j hj] at h2
      have h5 := size_len (l[j]).f0
      have h6 := size_len s
      rw [h2, heq, List.length_append] at h5
      have := List.length_pos_iff.2 hq
      simp only [Bool.and_eq_true, decide_eq_true_eq]
      refine ⟨begB_iff.2 ?_, by omega⟩
      rw [h2, heq]
      exact List.prefix_append ..
    · rw [d2] at h3; exact absurd h3 d3
  · rintro ⟨r, hr, hh⟩
    simp only [Bool.and_eq_true, decide_eq_true_eq] at hh
    obtain ⟨h1, h2⟩ := hh
    obtain ⟨q, hq⟩ := begB_iff.1 h1
    obtain ⟨j, hj, rfl⟩ := List.getElem_of_mem hr
    have hdg : Tr.Dig (l[j]).f0.data.toList := (hl.each _ hr).dig
    rcases hp.look _ hdg with ⟨i, hi, h3, h4⟩ | ⟨h3, _⟩
    · refine ⟨((l[j]).f0.data.toList, (i : Int) + 1), (Tr.mem_entries hp.ok.1 _).2 ⟨hdg, h4, by dsimp only; omega⟩, q, ?_, hq.symm⟩
      rintro rfl
      rw [List.append_nil] at hq
      have h5 := size_len (l[j]).f0
      have h6 := size_len s
      rw [← hq] at h5
      omega
    · refine absurd ?_ (h3 j hj)
      rw [rd_rule l j hj]

def overI (l : Rl) (s : ByteArray) : Int × Int :=
  if extR l s = true ∨ (bestR l s < 0 ∧ s.size = 0) then (1, bestR l s) else if bestR l s < 0 then (3, -1) else (stO (rdR l (bestR l s)) s.size, bestR l s)
def blocI (l : Rl) (s : ByteArray) : Int × Int := if bestR l s < 0 then (3, -1) else (stB (rdR l (bestR l s)) s.size, bestR l s)
theorem over_is {l : Rl} (h : chkR l = 0) {s : ByteArray} (hd : Tr.Dig s.data.toList) : overV l s = overI l s := by
  unfold overV overI
  rw [ext_best h hd]
  rcases long_best h hd with ⟨h1, h2⟩ | ⟨j, hj, h1, h2⟩
  · rw [h1, h2]
    by_cases hc : extR l s = true ∨ ((-1 : Int) < 0 ∧ s.size = 0)
    · rw [_root_.if_pos hc, _root_.if_pos (hc.elim .inl (fun h => .inr ⟨rfl, h.2⟩))]
      rfl
    · rw [_root_.if_neg hc, _root_.if_neg (fun h => hc (h.elim .inl (fun h => .inr ⟨by decide, h.2⟩))), _root_.if_pos rfl, _root_.if_pos (by decide)]
  · rw [h1, h2]
    by_cases hc : extR l s = true
    · rw [_root_.if_pos (.inl hc), _root_.if_pos (.inl hc)]
      simp
    · have n1 : ¬ (extR l s = true ∨ (((j : Int) + 1, (((rdR l (j : Int)).f0.size : Nat) : Int), true).2.2 = false ∧ s.size = 0)) := fun h => h.elim hc (fun h => absurd h.1 (by simp))
      have n2 : ¬ (extR l s = true ∨ ((j : Int) < 0 ∧ s.size = 0)) := fun h => h.elim hc (fun h => absurd h.1 (by omega))
      rw [_root_.if_neg n1, _root_.if_neg n2, _root_.if_neg (by simp), _root_.if_neg (by omega)]
      simp
theorem bloc_ev {l : Rl} (h : chkR l = 0) {s : ByteArray} (hs : s.size ≤ 9223372036854775807) (hd : Tr.Dig s.data.toList) : Ev (fun k => bloc.f k (planT l l.length) l s) (blocI l s) := by
  unfold bloc.f
  refine Ev.bind (Long_ev _ s hs) ?_
  unfold blocI
  obtain ⟨hl, h64⟩ := chkR_zero h
  rcases long_best h hd with ⟨h1, h2⟩ | ⟨j, hj, h1, h2⟩
  · rw [h1, h2]
    refine Ev.if_pos (by decide) ?_
    refine Ev.if_pos rfl ?_
    exact Ev.done rfl
  · rw [h1, h2]
    refine Ev.if_pos (by dsimp only; omega) ?_
    refine Ev.if_neg (by simp) ?_
    refine Ev.if_pos (by dsimp only; omega) ?_
    refine Ev.done ?_
    rw [_root_.if_neg (by omega)]
    simp

/-- What Analyze answers: (state, rule, error). -/
def anaI (l : Rl) (s : ByteArray) (fin : Bool) : Int × Int × Int :=
  if chkR l ≠ 0 then (0, 0, chkR l) else if digB s = false then (0, 0, 60) else if fin = true then ((blocI l s).1, (blocI l s).2, 0) else ((overI l s).1, (overI l s).2, 0)
theorem Analyze_evI (l : Rl) (s : ByteArray) (fin : Bool) (hs : s.size ≤ 9223372036854775807) : Ev (fun k => dialplan_Analyze.f k l s fin) (anaI l s fin) := by
  unfold dialplan_Analyze.f anaI
  by_cases h : chkR l = 0
  · refine Ev.bind (compile_ev h) ?_
    rw [_root_.if_neg (fun hh => hh h)]
    refine Ev.if_neg (by simp) ?_
    unfold dialplan_numeric.f
    rw [_root_.if_pos hs]
    refine Ev.bind (Ev.now _) ?_
    cases hd : digB s with
    | false =>
      rw [_root_.if_pos rfl]
      exact Ev.if_pos rfl (Ev.now _)
    | true =>
      rw [_root_.if_neg (by decide)]
      refine Ev.if_neg (by decide) ?_
      cases fin with
      | true =>
        rw [_root_.if_pos rfl]
        refine Ev.if_pos rfl ?_
        exact Ev.bind (bloc_ev h hs ((digB_iff s).1 hd)) (Ev.now _)
      | false =>
        rw [_root_.if_neg (by decide)]
        refine Ev.if_neg (by decide) ?_
        rw [← over_is h ((digB_iff s).1 hd)]
        exact Ev.bind (overlap_ev h s hs) (Ev.now _)
  · refine Ev.bind (compile_bad h) ?_
    rw [_root_.if_pos h]
    exact Ev.if_pos h (Ev.now _)

/-- The best is none, or one of the rules. -/
theorem bestR_cases (l : Rl) (s : ByteArray) : bestR l s = -1 ∨ ∃ j : Nat, j < l.length ∧ bestR l s = (j : Int) := by
  have h := bestI_is l s l.length
  unfold bestR
  obtain ⟨b, hb⟩ : ∃ b, bestI l s l.length = b := ⟨_, rfl⟩
  rw [hb] at h ⊢
  cases h with
  | none _ => exact .inl rfl
  | some j hj _ _ => exact .inr ⟨j, hj, rfl⟩

theorem blocI_two (l : Rl) (s : ByteArray) : (blocI l s).2 = bestR l s := by
  unfold blocI
  split
  · rcases bestR_cases l s with hb | ⟨j, hj, hb⟩
    · exact hb.symm
    · omega
  · rfl
theorem overI_two (l : Rl) (s : ByteArray) : (overI l s).2 = bestR l s := by
  unfold overI
  split
  · rfl
  · split
    · rcases bestR_cases l s with hb | ⟨j, hj, hb⟩
      · exact hb.symm
      · omega
    · rfl

theorem anaI_bad {l : Rl} (h : chkR l ≠ 0) (s : ByteArray) (fin : Bool) : anaI l s fin = (0, 0, chkR l) := by
  unfold anaI
  rw [if_pos h]
theorem anaI_nodig {l : Rl} (h : chkR l = 0) {s : ByteArray} (hd : digB s = false) (fin : Bool) : anaI l s fin = (0, 0, 60) := by
  unfold anaI
  rw [if_neg (fun hh => hh h), if_pos hd]
theorem anaI_over {l : Rl} (h : chkR l = 0) {s : ByteArray} (hd : digB s = true) : anaI l s false = ((overI l s).1, bestR l s, 0) := by
  unfold anaI
  rw [if_neg (fun hh => hh h), if_neg (by rw [hd]; decide), if_neg (by decide), overI_two]
theorem anaI_bloc {l : Rl} (h : chkR l = 0) {s : ByteArray} (hd : digB s = true) : anaI l s true = ((blocI l s).1, bestR l s, 0) := by
  unfold anaI
  rw [if_neg (fun hh => hh h), if_neg (by rw [hd]; decide), if_pos rfl, blocI_two]

end Go.Proofs.YthknfclhkmehgaaDoor.Fn
