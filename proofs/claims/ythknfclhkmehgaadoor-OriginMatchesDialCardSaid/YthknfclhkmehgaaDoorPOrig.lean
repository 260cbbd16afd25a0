/-
  PLAIN LAW: what origin.Check and origin.Step answer, told by the rules alone.
-/
import Derived.Test.YthknfclhkmehgaaDoorPRev
import Derived.Test.YthknfclhkmehgaaDoorEStep
namespace Go.Proofs.YthknfclhkmehgaaDoor.Fn
open Go.RowKit Go.Proofs.YthknfclhkmehgaaDoorW.PrintWords Go.Proofs.YthknfclhkmehgaaDoorW.PrintLast Go.Proofs.YthknfclhkmehgaaDoorW.PrintMore
set_option linter.unusedVariables false
set_option linter.unusedSimpArgs false

/-- What Check answers. -/
def chkO (l : Rl) (st : Int) (d : ByteArray) : Int :=
  if chkR l ≠ 0 then chkR l else if st < 0 ∨ 5 < st then 1 else if st = 1 then (if (anaI l d false).2.2 = 0 ∧ (anaI l d false).1 = 1 ∧ d.size ≤ 20 then 0 else 1) else if d.size = 0 then 0 else 1
theorem nil_iff (d : ByteArray) : d.toList = ([] : List UInt8) ↔ d.size = 0 := by
  rw [toList_data']
  constructor
  · intro h
    have := congrArg List.length h
    rw [Array.length_toList] at this
    exact this
  · intro h
    rw [empty_iff h]
theorem OCheck_ev (l : Rl) (st : Int) (d : ByteArray) (hs : d.size < 1000000) : Ev (fun k => origin_Check.f k st d l) (chkO l st d) := by
  by_cases h : chkR l = 0
  rotate_left
  · rw [show chkO l st d = chkR l from _root_.if_pos h]
    unfold origin_Check.f
    refine Ev.bind (a := chkR l) (Ev.done rfl) ?_
    exact Ev.if_neg h (Ev.now _)
  have k0 : ¬ chkR l ≠ 0 := fun hh => hh h
  by_cases h0 : st < 0
  · rw [show chkO l st d = 1 from (_root_.if_neg k0).trans (_root_.if_pos (Or.inl h0))]
    unfold origin_Check.f
    refine Ev.bind (a := chkR l) (Ev.done rfl) ?_
    refine Ev.if_pos h ?_
    refine Ev.if_pos h0 ?_
    refine Ev.step (fun k => origin_Check.j0.eq_2 _ _ _ _ k) ?_
    exact Ev.if_pos rfl (Ev.now _)
  by_cases h5 : 5 < st
  · rw [show chkO l st d = 1 from (_root_.if_neg k0).trans (_root_.if_pos (Or.inr h5))]
    unfold origin_Check.f
    refine Ev.bind (a := chkR l) (Ev.done rfl) ?_
    refine Ev.if_pos h ?_
    refine Ev.if_neg h0 ?_
    refine Ev.step (fun k => origin_Check.j0.eq_2 _ _ _ _ k) ?_
    exact Ev.if_pos (decide_eq_true h5) (Ev.now _)
  have k1 : ¬ (st < 0 ∨ 5 < st) := by omega
  have start : ∀ r, Ev (fun k => if st = 1 then ((dialplan_Analyze.f k l d false).bind fun bt => (if bt.2.2 = 0 then (if bt.1 = 1 then (if (d.size : Int) > 20 then (some 1) else (some 0)) else (some 1)) else (some 1))) else (if d.toList = ([] : List UInt8) then (some 0) else (some 1))) r → Ev (fun k => origin_Check.f k st d l) r := by
    intro r hr
    unfold origin_Check.f
    refine Ev.bind (a := chkR l) (Ev.done rfl) ?_
    refine Ev.if_pos h ?_
    refine Ev.if_neg h0 ?_
    refine Ev.step (fun k => origin_Check.j0.eq_2 _ _ _ _ k) ?_
    exact Ev.if_neg (by rw [decide_eq_false (by omega : ¬ st > 5)]; decide) hr
  refine start _ ?_
  by_cases h1 : st = 1
  · refine Ev.if_pos h1 ?_
    refine Ev.bind (Analyze_evI l d false (by omega)) ?_
    by_cases c1 : (anaI l d false).2.2 = 0
    · refine Ev.if_pos c1 ?_
      by_cases c2 : (anaI l d false).1 = 1
      · refine Ev.if_pos c2 ?_
        by_cases c3 : d.size ≤ 20
        · rw [show chkO l st d = 0 from (_root_.if_neg k0).trans ((_root_.if_neg k1).trans ((_root_.if_pos h1).trans (_root_.if_pos ⟨c1, c2, c3⟩)))]
          exact Ev.if_neg (by omega) (Ev.now _)
        · rw [show chkO l st d = 1 from (_root_.if_neg k0).trans ((_root_.if_neg k1).trans ((_root_.if_pos h1).trans (_root_.if_neg (fun hh => c3 hh.2.2))))]
          exact Ev.if_pos (by omega) (Ev.now _)
      · rw [show chkO l st d = 1 from (_root_.if_neg k0).trans ((_root_.if_neg k1).trans ((_root_.if_pos h1).trans (_root_.if_neg (fun hh => c2 hh.2.1))))]
        exact Ev.if_neg c2 (Ev.now _)
    · rw [show chkO l st d = 1 from (_root_.if_neg k0).trans ((_root_.if_neg k1).trans ((_root_.if_pos h1).trans (_root_.if_neg (fun hh => c1 hh.1))))]
      exact Ev.if_neg c1 (Ev.now _)
  · refine Ev.if_neg h1 ?_
    by_cases c : d.size = 0
    · rw [show chkO l st d = 0 from (_root_.if_neg k0).trans ((_root_.if_neg k1).trans ((_root_.if_neg h1).trans (_root_.if_pos c)))]
      exact Ev.if_pos ((nil_iff d).2 c) (Ev.now _)
    · rw [show chkO l st d = 1 from (_root_.if_neg k0).trans ((_root_.if_neg k1).trans ((_root_.if_neg h1).trans (_root_.if_neg c)))]
      exact Ev.if_neg (fun hh => c ((nil_iff d).1 hh)) (Ev.now _)

theorem ana_in (l : Rl) (s : ByteArray) (fin : Bool) : inB l (anaI l s fin).1 (anaI l s fin).2.1 = true := by
  unfold inB
  by_cases h : chkR l = 0
  · cases hd : digB s with
    | false => rw [anaI_nodig h hd]; rfl
    | true =>
      rw [anaI_ok h hd]
      by_cases h2 : stI l s fin = 2
      · obtain ⟨j, hj, e, _⟩ := stI_two h h2
        dsimp only
        rw [e, decide_eq_true (show (0 : Int) ≤ (j : Int) by omega), decide_eq_true (show (j : Int) < (l.length : Int) by omega)]
        simp
      · dsimp only
        rw [decide_eq_true h2]
        rfl
  · rw [anaI_bad h]
    rfl

/-- The digit, dialled. -/
def digD (d : ByteArray) (ed : Int) : ByteArray := d ++ Utf8.encode ed
def sil (d : ByteArray) : Al := if d.size = 0 then [actK 2] else []
def digI (l : Rl) (d : ByteArray) (ed : Int) : O3 :=
  if (anaI l (digD d ed) false).1 = 1 then (1, digD d ed, sil d ++ [⟨9, 0, ⟨#[]⟩, 10⟩]) else decP l (digD d ed) (anaI l (digD d ed) false).1 (anaI l (digD d ed) false).2.1 (sil d ++ [actK 10])
def timI (l : Rl) (d : ByteArray) : O3 :=
  if d.size = 0 then (5, ⟨#[]⟩, [⟨3, 102, ⟨#[]⟩, 0⟩]) else decP l d (anaI l d true).1 (anaI l d true).2.1 []
theorem digD_size {d : ByteArray} {ed : Int} (h0 : 48 ≤ ed) (h1 : ed ≤ 57) : (digD d ed).size = d.size + 1 := by
  unfold digD
  rw [ByteArray.size_append, enc_size h0 h1]
theorem dig_ev (l : Rl) (d : ByteArray) (ed : Int) (hs : d.size < 1000000) (h0 : 48 ≤ ed) (h1 : ed ≤ 57) : Ev (fun k => digF k l d ed) (digI l d ed) := by
  by_cases c : (anaI l (digD d ed) false).1 = 1
  · rw [show digI l d ed = (1, digD d ed, sil d ++ [⟨9, 0, ⟨#[]⟩, 10⟩]) from _root_.if_pos c]
    unfold digF
    refine Ev.if_pos ⟨hs, h0, h1⟩ ?_
    refine Ev.bind (Analyze_evI l (digD d ed) false (by rw [digD_size h0 h1]; omega)) ?_
    exact Ev.if_pos c (Ev.now _)
  · rw [show digI l d ed = decP l (digD d ed) (anaI l (digD d ed) false).1 (anaI l (digD d ed) false).2.1 (sil d ++ [actK 10]) from _root_.if_neg c]
    unfold digF
    refine Ev.if_pos ⟨hs, h0, h1⟩ ?_
    refine Ev.bind (Analyze_evI l (digD d ed) false (by rw [digD_size h0 h1]; omega)) ?_
    refine Ev.if_neg c ?_
    exact Ev.if_pos (ana_in l _ _) (Ev.now _)
theorem tim_ev (l : Rl) (d : ByteArray) (hs : d.size < 1000000) : Ev (fun k => timF k l d) (timI l d) := by
  by_cases c : d.size = 0
  · rw [show timI l d = (5, ⟨#[]⟩, [⟨3, 102, ⟨#[]⟩, 0⟩]) from _root_.if_pos c]
    unfold timF
    exact Ev.if_pos c (Ev.now _)
  · rw [show timI l d = decP l d (anaI l d true).1 (anaI l d true).2.1 [] from _root_.if_neg c]
    unfold timF
    refine Ev.if_neg c ?_
    refine Ev.bind (Analyze_evI l d true (by omega)) ?_
    exact Ev.if_pos (ana_in l _ _) (Ev.now _)

def methI (l : Rl) (st : Int) (d : ByteArray) (ec ed : Int) (f : Nat) : O3 :=
  if f = 66 then (1, ⟨#[]⟩, [actK 1, ⟨9, 0, ⟨#[]⟩, 10⟩])
  else if f = 67 then (st, d, [])
  else if f = 68 then digI l d ed
  else if f = 69 then timI l d
  else if f = 70 then (0, ⟨#[]⟩, [actK 10, actK 2])
  else if f = 71 then (3, ⟨#[]⟩, [actK 4])
  else if f = 72 then (4, ⟨#[]⟩, [actK 2, actK 8])
  else if f = 73 then (5, ⟨#[]⟩, [⟨3, ec, ⟨#[]⟩, 0⟩])
  else if f = 74 then (0, ⟨#[]⟩, [actK 2, ⟨7, 16, ⟨#[]⟩, 0⟩])
  else (0, ⟨#[]⟩, [actK 2])
/-- What Step answers. -/
def stepI (l : Rl) (st : Int) (d : ByteArray) (ek ec ed : Int) : Int × ByteArray × Al × Int :=
  if chkO l st d ≠ 0 then (0, ⟨#[]⟩, [], chkO l st d) else if badE ek ec ed = true then (0, ⟨#[]⟩, [], 1) else match tabI st ek with
    | none => (0, ⟨#[]⟩, [], 160)
    | some f => ((methI l st d ec ed f).1, (methI l st d ec ed f).2.1, (methI l st d ec ed f).2.2, 0)
theorem badE_dig {ec ed : Int} (h : badE 3 ec ed = false) : 48 ≤ ed ∧ ed ≤ 57 := by
  unfold badE at h
  simp at h
  omega
theorem tab_meth {st ek : Int} {f : Nat} (h : tabI st ek = some f) : ∃ j, j < 20 ∧ st = (rowE j).1 ∧ ek = (rowE j).2.1 ∧ f = (rowE j).2.2 := by
  obtain ⟨j, hj, hr⟩ := tab_row h
  exact ⟨j, hj, by rw [hr], by rw [hr], by rw [hr]⟩
theorem tab_dig {st ek : Int} (h : tabI st ek = some 68) : st = 1 ∧ ek = 3 := by
  obtain ⟨j, hj, h1, h2, h3⟩ := tab_meth h
  have key : ∀ j : Fin 20, 68 = (rowE j).2.2 → (rowE j).1 = 1 ∧ (rowE j).2.1 = 3 := by decide +kernel
  have h4 := key ⟨j, hj⟩ h3
  exact ⟨h1.trans h4.1, h2.trans h4.2⟩
theorem tab_known {st ek : Int} {f : Nat} (h : tabI st ek = some f) : f = 66 ∨ f = 67 ∨ f = 68 ∨ f = 69 ∨ f = 70 ∨ f = 71 ∨ f = 72 ∨ f = 73 ∨ f = 74 ∨ f = 75 := by
  obtain ⟨j, hj, h1, h2, h3⟩ := tab_meth h
  have key : ∀ j : Fin 20, (rowE j).2.2 = 66 ∨ (rowE j).2.2 = 67 ∨ (rowE j).2.2 = 68 ∨ (rowE j).2.2 = 69 ∨ (rowE j).2.2 = 70 ∨ (rowE j).2.2 = 71 ∨ (rowE j).2.2 = 72 ∨ (rowE j).2.2 = 73 ∨ (rowE j).2.2 = 74 ∨ (rowE j).2.2 = 75 := by decide +kernel
  rw [h3]
  exact key ⟨j, hj⟩
theorem meth_ev (l : Rl) (st : Int) (d : ByteArray) (ek ec ed : Int) (f : Nat) (hs : d.size < 1000000) (ht : tabI st ek = some f) (hb : badE ek ec ed = false) : Ev (fun k => methF k l st d ec ed f) (methI l st d ec ed f) := by
  rcases tab_known ht with rfl | rfl | rfl | rfl | rfl | rfl | rfl | rfl | rfl | rfl
  · exact Ev.now _
  · exact Ev.now _
  · obtain ⟨_, rfl⟩ := tab_dig ht
    obtain ⟨h0, h1⟩ := badE_dig hb
    exact dig_ev l d ed hs h0 h1
  · exact tim_ev l d hs
  · exact Ev.now _
  · exact Ev.now _
  · exact Ev.now _
  · exact Ev.now _
  · exact Ev.now _
  · exact Ev.now _
theorem chkO_range {l : Rl} {st : Int} {d : ByteArray} (h : chkO l st d = 0) : chkR l = 0 ∧ 0 ≤ st ∧ st ≤ 5 ∧ (st = 1 → (anaI l d false).2.2 = 0 ∧ (anaI l d false).1 = 1 ∧ d.size ≤ 20) ∧ (st ≠ 1 → d.size = 0) := by
  unfold chkO at h
  split at h
  · rename_i hh; exact absurd h hh
  · rename_i h0
    split at h
    · cases h
    · split at h
      · rename_i h1
        split at h
        · rename_i h2
          exact ⟨by omega, by omega, by omega, fun _ => h2, fun hh => absurd h1 hh⟩
        · cases h
      · rename_i h1
        split at h
        · rename_i h2
          exact ⟨by omega, by omega, by omega, fun hh => absurd hh h1, fun _ => h2⟩
        · cases h
theorem Step_ev (l : Rl) (st : Int) (d : ByteArray) (ek ec ed : Int) (hs : d.size < 1000000) : Ev (fun k => origin_Step.f k st d l ek ec ed) (stepI l st d ek ec ed) := by
  by_cases h : chkO l st d = 0
  · have k0 : ¬ chkO l st d ≠ 0 := fun hh => hh h
    obtain ⟨_, g0, g1, _, _⟩ := chkO_range h
    cases hb : badE ek ec ed with
    | true =>
      rw [show stepI l st d ek ec ed = (0, ⟨#[]⟩, [], 1) from (_root_.if_neg k0).trans (_root_.if_pos hb)]
      unfold origin_Step.f
      refine Ev.bind (OCheck_ev l st d hs) ?_
      refine Ev.if_neg k0 ?_
      exact Ev.if_pos hb (Ev.now _)
    | false =>
      have k1 : ¬ badE ek ec ed = true := by rw [hb]; decide
      cases ht : tabI st ek with
      | none =>
        rw [show stepI l st d ek ec ed = (0, ⟨#[]⟩, [], 160) from (_root_.if_neg k0).trans ((_root_.if_neg k1).trans (by rw [ht]))]
        unfold origin_Step.f
        refine Ev.bind (OCheck_ev l st d hs) ?_
        refine Ev.if_neg k0 ?_
        refine Ev.if_neg k1 ?_
        refine Ev.if_pos ⟨g0, g1⟩ ?_
        rw [ht]
        exact Ev.now _
      | some f =>
        rw [show stepI l st d ek ec ed = ((methI l st d ec ed f).1, (methI l st d ec ed f).2.1, (methI l st d ec ed f).2.2, 0) from (_root_.if_neg k0).trans ((_root_.if_neg k1).trans (by rw [ht]))]
        unfold origin_Step.f
        refine Ev.bind (OCheck_ev l st d hs) ?_
        refine Ev.if_neg k0 ?_
        refine Ev.if_neg k1 ?_
        refine Ev.if_pos ⟨g0, g1⟩ ?_
        rw [ht]
        exact Ev.bind (meth_ev l st d ek ec ed f hs ht hb) (Ev.now _)
  · rw [show stepI l st d ek ec ed = (0, ⟨#[]⟩, [], chkO l st d) from _root_.if_pos h]
    unfold origin_Step.f
    refine Ev.bind (OCheck_ev l st d hs) ?_
    exact Ev.if_pos h (Ev.now _)

theorem decP_cases (l : Rl) (d : ByteArray) (x y : Int) (acts : Al) : decP l d x y acts = (5, ⟨#[]⟩, acts ++ [⟨3, 28, ⟨#[]⟩, 0⟩]) ∨ decP l d x y acts = (5, ⟨#[]⟩, (acts ++ [⟨6, 0, d, 0⟩]) ++ [⟨3, 0, ⟨#[]⟩, 0⟩]) ∨ decP l d x y acts = (2, ⟨#[]⟩, acts ++ [⟨5, 0, d, y⟩]) := by
  unfold decP
  split
  · exact .inl rfl
  · split
    · exact .inr (.inl rfl)
    · exact .inr (.inr rfl)

end Go.Proofs.YthknfclhkmehgaaDoor.Fn
