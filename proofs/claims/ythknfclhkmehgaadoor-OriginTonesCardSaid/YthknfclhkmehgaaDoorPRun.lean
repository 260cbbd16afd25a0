/-
  PLAIN LAW: what holds after any sequence of events: the timer, the calls, the tone.
-/
import Derived.Test.YthknfclhkmehgaaDoorPOrig
import Derived.Test.YthknfclhkmehgaaDoorPFew
import Derived.Test.YthknfclhkmehgaaDoorFn18
import Derived.Test.YthknfclhkmehgaaDoorFn10
namespace Go.Proofs.YthknfclhkmehgaaDoor.Fn
open Go.RowKit Go.Proofs.YthknfclhkmehgaaDoorW.PrintWords Go.Proofs.YthknfclhkmehgaaDoorW.PrintLast Go.Proofs.YthknfclhkmehgaaDoorW.PrintMore
set_option linter.unusedVariables false
set_option linter.unusedSimpArgs false

/-- Timer, calls, tone, whether all was well. -/
abbrev H4 := Bool × Int × Int × Bool
def stpA (a : S62) (h : H4) : H4 :=
  if a.f0 = 9 then (true, h.2.1, h.2.2.1, h.2.2.2)
  else if a.f0 = 10 then (false, h.2.1, h.2.2.1, h.2.2.2 && h.1)
  else if a.f0 = 5 then (h.1, h.2.1 + 1, h.2.2.1, h.2.2.2)
  else if a.f0 = 7 then (h.1, h.2.1 - 1, h.2.2.1, h.2.2.2)
  else if a.f0 = 1 then (h.1, h.2.1, a.f0, h.2.2.2)
  else if a.f0 = 2 then (h.1, h.2.1, a.f0, h.2.2.2)
  else if a.f0 = 3 then (h.1, h.2.1, a.f0, h.2.2.2)
  else if a.f0 = 4 then (h.1, h.2.1, a.f0, h.2.2.2)
  else h
def runA : Al → H4 → H4
  | [], h => h
  | a :: aas, h => runA aas (stpA a h)
theorem rd_act (l : Al) (j : Nat) (hj : j < l.length) : rd_T62 l (j : Int) = l[j] := by
  unfold rd_T62
  rw [List.getD_eq_getElem?_getD, Int.toNat_natCast, List.getElem?_eq_getElem hj]
  rfl
theorem rd_evt (l : List S47) (j : Nat) (hj : j < l.length) : rd_T47 l (j : Int) = l[j] := by
  unfold rd_T47
  rw [List.getD_eq_getElem?_getD, Int.toNat_natCast, List.getElem?_eq_getElem hj]
  rfl
theorem wS {x : Int} (h0 : -9223372036854775808 ≤ x) (h1 : x < 9223372036854775808) : wrap64 x = x := by
  unfold wrap64
  omega
theorem run_l1 (x0 : Rl) (x1 : List S47) (x6 : Int) (st : Int) (d : ByteArray) (st' : Int) (d' : ByteArray) (acts : Al) (R : Int × ByteArray × Bool × Int × Int × Bool) (hlen : acts.length < 1000) : ∀ (m i : Nat), acts.length - i = m → i ≤ acts.length → ∀ h : H4, -1000000 ≤ h.2.1 - (m : Int) → h.2.1 + (m : Int) ≤ 1000000 →
    Ev (fun k => crossbarlaw16_run.l0 k x0 x1 (wrap64 (x6 + 1)) st' d' (runA (acts.drop i) h).1 (runA (acts.drop i) h).2.1 (runA (acts.drop i) h).2.2.1 (runA (acts.drop i) h).2.2.2) R →
    Ev (fun k => crossbarlaw16_run.l1 k x0 x1 x6 acts (i : Int) st d h.1 h.2.1 h.2.2.1 h.2.2.2 st' d') R := by
  intro m
  induction m with
  | zero =>
    intro i hm hi h _ _ hR
    rw [List.drop_eq_nil_of_le (by omega)] at hR
    refine Ev.step (fun k => crossbarlaw16_run.l1.eq_2 _ _ _ _ _ _ _ _ _ _ _ _ _ k) ?_
    exact Ev.if_neg (by omega) hR
  | succ m ih =>
    intro i hm hi h hb0 hb1 hR
    have hil : i < acts.length := by omega
    rw [List.drop_eq_getElem_cons hil] at hR
    refine Ev.step (fun k => crossbarlaw16_run.l1.eq_2 _ _ _ _ _ _ _ _ _ _ _ _ _ k) ?_
    refine Ev.if_pos (by omega) ?_
    refine Ev.if_pos (by omega) ?_
    rw [rd_act acts i hil, wS (by omega) (by omega), show ((i : Int) + 1) = ((i + 1 : Nat) : Int) by omega]
    have hnext := ih (i + 1) (by omega) (by omega) (stpA acts[i] h)
    have hR' : Ev (fun k => crossbarlaw16_run.l0 k x0 x1 (wrap64 (x6 + 1)) st' d' (runA (acts.drop (i + 1)) (stpA acts[i] h)).1 (runA (acts.drop (i + 1)) (stpA acts[i] h)).2.1 (runA (acts.drop (i + 1)) (stpA acts[i] h)).2.2.1 (runA (acts.drop (i + 1)) (stpA acts[i] h)).2.2.2) R := hR
    obtain ⟨a, ha⟩ : ∃ a, acts[i] = a := ⟨_, rfl⟩
    rw [ha] at hnext hR' ⊢
    obtain ⟨tm, ca, ton, ok⟩ := h
    simp only at hb0 hb1 ⊢
    unfold stpA at hnext hR'
    by_cases c9 : a.f0 = 9
    · rw [_root_.if_pos c9] at hnext hR'
      exact Ev.if_pos c9 (hnext (by simp only; omega) (by simp only; omega) hR')
    rw [_root_.if_neg c9] at hnext hR'
    refine Ev.if_neg c9 ?_
    by_cases c10 : a.f0 = 10
    · rw [_root_.if_pos c10] at hnext hR'
      refine Ev.if_pos c10 ?_
      cases ok with
      | true => exact Ev.if_pos rfl (hnext (by simp only; omega) (by simp only; omega) hR')
      | false => exact Ev.if_neg (by decide) (hnext (by simp only; omega) (by simp only; omega) hR')
    rw [_root_.if_neg c10] at hnext hR'
    refine Ev.if_neg c10 ?_
    by_cases c5 : a.f0 = 5
    · rw [_root_.if_pos c5] at hnext hR'
      refine Ev.if_pos c5 ?_
      rw [wS (by omega) (by omega)]
      exact hnext (by simp only; omega) (by simp only; omega) hR'
    rw [_root_.if_neg c5] at hnext hR'
    refine Ev.if_neg c5 ?_
    by_cases c7 : a.f0 = 7
    · rw [_root_.if_pos c7] at hnext hR'
      refine Ev.if_pos c7 ?_
      rw [wS (by omega) (by omega)]
      exact hnext (by simp only; omega) (by simp only; omega) hR'
    rw [_root_.if_neg c7] at hnext hR'
    refine Ev.if_neg c7 ?_
    by_cases c1 : a.f0 = 1
    · rw [_root_.if_pos c1] at hnext hR'
      exact Ev.if_pos c1 (hnext (by simp only; omega) (by simp only; omega) hR')
    rw [_root_.if_neg c1] at hnext hR'
    refine Ev.if_neg c1 ?_
    by_cases c2 : a.f0 = 2
    · rw [_root_.if_pos c2] at hnext hR'
      exact Ev.if_pos c2 (hnext (by simp only; omega) (by simp only; omega) hR')
    rw [_root_.if_neg c2] at hnext hR'
    refine Ev.if_neg c2 ?_
    by_cases c3 : a.f0 = 3
    · rw [_root_.if_pos c3] at hnext hR'
      exact Ev.if_pos c3 (hnext (by simp only; omega) (by simp only; omega) hR')
    rw [_root_.if_neg c3] at hnext hR'
    refine Ev.if_neg c3 ?_
    by_cases c4 : a.f0 = 4
    · rw [_root_.if_pos c4] at hnext hR'
      exact Ev.if_pos c4 (hnext (by simp only; omega) (by simp only; omega) hR')
    rw [_root_.if_neg c4] at hnext hR'
    exact Ev.if_neg c4 (hnext (by simp only; omega) (by simp only; omega) hR')

theorem runA_app : ∀ (a b : Al) (h : H4), runA (a ++ b) h = runA b (runA a h)
  | [], _, _ => rfl
  | x :: a, b, h => runA_app a b (stpA x h)
theorem decP_len (l : Rl) (d : ByteArray) (x y : Int) (acts : Al) : (decP l d x y acts).2.2.length ≤ acts.length + 2 := by
  rcases decP_cases l d x y acts with e | e | e <;> rw [e] <;> simp
theorem sil_len (d : ByteArray) : (sil d).length ≤ 1 := by
  unfold sil
  split <;> simp
theorem step_len (l : Rl) (st : Int) (d : ByteArray) (ek ec ed : Int) : (stepI l st d ek ec ed).2.2.1.length ≤ 4 := by
  unfold stepI
  split
  · simp
  · split
    · simp
    · cases ht : tabI st ek with
      | none => simp
      | some f =>
        show (methI l st d ec ed f).2.2.length ≤ 4
        rcases tab_known ht with rfl | rfl | rfl | rfl | rfl | rfl | rfl | rfl | rfl | rfl
        · exact (by decide : 2 ≤ 4)
        · exact (by decide : 0 ≤ 4)
        · show (digI l d ed).2.2.length ≤ 4
          unfold digI
          have := sil_len d
          split
          · show (sil d ++ [_]).length ≤ 4
            rw [List.length_append]
            simp
            omega
          · refine Nat.le_trans (decP_len _ _ _ _ _) ?_
            rw [List.length_append]
            simp
            omega
        · show (timI l d).2.2.length ≤ 4
          unfold timI
          split
          · simp
          · exact Nat.le_trans (decP_len _ _ _ _ _) (by simp)
        · exact (by decide : 2 ≤ 4)
        · exact (by decide : 1 ≤ 4)
        · exact (by decide : 2 ≤ 4)
        · exact (by decide : 1 ≤ 4)
        · exact (by decide : 2 ≤ 4)
        · exact (by decide : 1 ≤ 4)
/-- What holds of a half call and of what its actions have asked for. -/
structure RI (st : Int) (d : ByteArray) (h : H4) : Prop where
  lo : 0 ≤ st
  hi : st ≤ 5
  tm : h.1 = decide (st = 1)
  ca : h.2.1 = if st = 2 ∨ st = 3 ∨ st = 4 then 1 else 0
  t0 : st = 0 → h.2.2.1 = 0 ∨ h.2.2.1 = 2
  t1 : st = 1 → d.size = 0 → h.2.2.1 = 1
  t2 : (st = 2 ∨ st = 4 ∨ (st = 1 ∧ d.size ≠ 0)) → h.2.2.1 = 2
  t3 : st = 3 → h.2.2.1 = 4
  t5 : st = 5 → h.2.2.1 = 3
  ok : h.2.2.2 = true
  sz : d.size ≤ 21
theorem RIof {st : Int} {d : ByteArray} {h h' : H4} (hI : RI st d h') (e : h = h') : RI st d h := e ▸ hI
theorem RI0 : RI 0 ⟨#[]⟩ (false, 0, 2, true) := ⟨by decide, by decide, by decide, by decide, fun _ => .inr rfl, fun h => absurd h (by decide), fun h => by omega, fun h => absurd h (by decide), fun h => absurd h (by decide), rfl, by decide⟩
theorem RI00 : RI 0 ⟨#[]⟩ (false, 0, 0, true) := ⟨by decide, by decide, by decide, by decide, fun _ => .inl rfl, fun h => absurd h (by decide), fun h => by omega, fun h => absurd h (by decide), fun h => absurd h (by decide), rfl, by decide⟩
theorem RI1 : RI 1 ⟨#[]⟩ (true, 0, 1, true) := ⟨by decide, by decide, by decide, by decide, fun h => absurd h (by decide), fun _ _ => rfl, fun h => by rcases h with h | h | h; (exact absurd h (by decide)); (exact absurd h (by decide)); exact absurd rfl h.2, fun h => absurd h (by decide), fun h => absurd h (by decide), rfl, by decide⟩
theorem RI1d {d : ByteArray} (h0 : d.size ≠ 0) (h1 : d.size ≤ 21) : RI 1 d (true, 0, 2, true) := ⟨by decide, by decide, by decide, by decide, fun h => absurd h (by decide), fun _ h => absurd h h0, fun _ => rfl, fun h => absurd h (by decide), fun h => absurd h (by decide), rfl, h1⟩
theorem RI2 : RI 2 ⟨#[]⟩ (false, 1, 2, true) := ⟨by decide, by decide, by decide, by decide, fun h => absurd h (by decide), fun h => absurd h (by decide), fun _ => rfl, fun h => absurd h (by decide), fun h => absurd h (by decide), rfl, by decide⟩
theorem RI3 : RI 3 ⟨#[]⟩ (false, 1, 4, true) := ⟨by decide, by decide, by decide, by decide, fun h => absurd h (by decide), fun h => absurd h (by decide), fun h => by omega, fun _ => rfl, fun h => absurd h (by decide), rfl, by decide⟩
theorem RI4 : RI 4 ⟨#[]⟩ (false, 1, 2, true) := ⟨by decide, by decide, by decide, by decide, fun h => absurd h (by decide), fun h => absurd h (by decide), fun _ => rfl, fun h => absurd h (by decide), fun h => absurd h (by decide), rfl, by decide⟩
theorem RI5 : RI 5 ⟨#[]⟩ (false, 0, 3, true) := ⟨by decide, by decide, by decide, by decide, fun h => absurd h (by decide), fun h => absurd h (by decide), fun h => by omega, fun h => absurd h (by decide), fun _ => rfl, rfl, by decide⟩

theorem step_zero {l : Rl} {st : Int} {d : ByteArray} {ek ec ed : Int} (he : (stepI l st d ek ec ed).2.2.2 = 0) : chkO l st d = 0 ∧ badE ek ec ed = false ∧ ∃ f, tabI st ek = some f ∧ stepI l st d ek ec ed = ((methI l st d ec ed f).1, (methI l st d ec ed f).2.1, (methI l st d ec ed f).2.2, 0) := by
  unfold stepI at he ⊢
  by_cases h : chkO l st d = 0
  · rw [_root_.if_neg (fun hh => hh h)] at he ⊢
    cases hb : badE ek ec ed with
    | true => rw [hb, _root_.if_pos rfl] at he; cases he
    | false =>
      rw [hb, _root_.if_neg (by decide)] at he
      rw [_root_.if_neg (by decide)]
      cases ht : tabI st ek with
      | none => rw [ht] at he; cases he
      | some f => exact ⟨h, rfl, f, rfl, rfl⟩
  · rw [_root_.if_pos h] at he
    exact absurd he h
theorem step_err {l : Rl} {st : Int} {d : ByteArray} {ek ec ed : Int} (he : (stepI l st d ek ec ed).2.2.2 ≠ 0) : (stepI l st d ek ec ed).1 = 0 ∧ (stepI l st d ek ec ed).2.1 = ⟨#[]⟩ ∧ (stepI l st d ek ec ed).2.2.1 = [] := by
  unfold stepI at he ⊢
  split
  · exact ⟨rfl, rfl, rfl⟩
  · rename_i h
    rw [_root_.if_neg h] at he
    split
    · exact ⟨rfl, rfl, rfl⟩
    · rename_i hb
      rw [_root_.if_neg hb] at he
      cases ht : tabI st ek with
      | none => exact ⟨rfl, rfl, rfl⟩
      | some f => rw [ht] at he; exact absurd rfl he

theorem RI_step {l : Rl} {st : Int} {d : ByteArray} {h : H4} {ek ec ed : Int} (hI : RI st d h) (he : (stepI l st d ek ec ed).2.2.2 = 0) :
    RI (stepI l st d ek ec ed).1 (stepI l st d ek ec ed).2.1 (runA (stepI l st d ek ec ed).2.2.1 (if ek = 4 then false else h.1, if ek = 9 then h.2.1 - 1 else h.2.1, h.2.2.1, h.2.2.2)) := by
  obtain ⟨hc, hb, f, ht, hs⟩ := step_zero he
  rw [hs]
  clear hs he
  obtain ⟨j, hj, hr⟩ := tab_row ht
  clear ht
  obtain ⟨tm, ca, ton, ok⟩ := h
  obtain rfl : ok = true := hI.ok
  match j, hj, hr with

  | 0, _, hr =>
    obtain rfl := (show (0 : Int) = st from congrArg (fun x => x.1) hr)
    obtain rfl := (show (1 : Int) = ek from congrArg (fun x => x.2.1) hr)
    obtain rfl := (show (66 : Nat) = f from congrArg (fun x => x.2.2) hr)
    obtain rfl : tm = false := hI.tm
    obtain rfl : ca = 0 := hI.ca
    exact RI1
  | 1, _, hr =>
    obtain rfl := (show (0 : Int) = st from congrArg (fun x => x.1) hr)
    obtain rfl := (show (3 : Int) = ek from congrArg (fun x => x.2.1) hr)
    obtain rfl := (show (67 : Nat) = f from congrArg (fun x => x.2.2) hr)
    exact hI
  | 2, _, hr =>
    obtain rfl := (show (1 : Int) = st from congrArg (fun x => x.1) hr)
    obtain rfl := (show (3 : Int) = ek from congrArg (fun x => x.2.1) hr)
    obtain rfl := (show (68 : Nat) = f from congrArg (fun x => x.2.2) hr)
    obtain rfl : tm = true := hI.tm
    obtain rfl : ca = 0 := hI.ca
    obtain ⟨hd0, hd1⟩ := badE_dig hb
    obtain ⟨_, _, hz⟩ := (chkO_range hc).2.2.2.1 rfl
    show RI (digI l d ed).1 (digI l d ed).2.1 (runA (digI l d ed).2.2 (true, 0, ton, true))
    have hto : runA (sil d) (true, 0, ton, true) = (true, 0, 2, true) := by
      unfold sil
      by_cases hd : d.size = 0
      · rw [_root_.if_pos hd]
        rfl
      · rw [_root_.if_neg hd]
        obtain rfl : ton = 2 := hI.t2 (.inr (.inr ⟨rfl, hd⟩))
        rfl
    unfold digI
    split
    · refine RIof (RI1d (by rw [digD_size hd0 hd1]; omega) (by rw [digD_size hd0 hd1]; omega)) ?_
      show runA (sil d ++ [⟨9, 0, ⟨#[]⟩, 10⟩]) _ = _
      rw [runA_app, hto]
      rfl
    · rcases decP_cases l (digD d ed) (anaI l (digD d ed) false).1 (anaI l (digD d ed) false).2.1 (sil d ++ [actK 10]) with e | e | e
      · rw [e]
        refine RIof RI5 ?_
        show runA (sil d ++ [actK 10] ++ [⟨3, 28, ⟨#[]⟩, 0⟩]) _ = _
        rw [runA_app, runA_app, hto]
        rfl
      · rw [e]
        refine RIof RI5 ?_
        show runA (sil d ++ [actK 10] ++ [⟨6, 0, digD d ed, 0⟩] ++ [⟨3, 0, ⟨#[]⟩, 0⟩]) _ = _
        rw [runA_app, runA_app, runA_app, hto]
        rfl
      · rw [e]
        refine RIof RI2 ?_
        show runA (sil d ++ [actK 10] ++ [⟨5, 0, digD d ed, _⟩]) _ = _
        rw [runA_app, runA_app, hto]
        rfl
  | 3, _, hr =>
    obtain rfl := (show (1 : Int) = st from congrArg (fun x => x.1) hr)
    obtain rfl := (show (4 : Int) = ek from congrArg (fun x => x.2.1) hr)
    obtain rfl := (show (69 : Nat) = f from congrArg (fun x => x.2.2) hr)
    obtain rfl : tm = true := hI.tm
    obtain rfl : ca = 0 := hI.ca
    show RI (timI l d).1 (timI l d).2.1 (runA (timI l d).2.2 (false, 0, ton, true))
    unfold timI
    by_cases hd : d.size = 0
    · rw [_root_.if_pos hd]
      exact RI5
    · rw [_root_.if_neg hd]
      obtain rfl : ton = 2 := hI.t2 (.inr (.inr ⟨rfl, hd⟩))
      rcases decP_cases l d (anaI l d true).1 (anaI l d true).2.1 [] with e | e | e
      · rw [e]
        exact RI5
      · rw [e]
        exact RI5
      · rw [e]
        exact RI2
  | 4, _, hr =>
    obtain rfl := (show (1 : Int) = st from congrArg (fun x => x.1) hr)
    obtain rfl := (show (2 : Int) = ek from congrArg (fun x => x.2.1) hr)
    obtain rfl := (show (70 : Nat) = f from congrArg (fun x => x.2.2) hr)
    obtain rfl : tm = true := hI.tm
    obtain rfl : ca = 0 := hI.ca
    exact RI0
  | 5, _, hr =>
    obtain rfl := (show (2 : Int) = st from congrArg (fun x => x.1) hr)
    obtain rfl := (show (3 : Int) = ek from congrArg (fun x => x.2.1) hr)
    obtain rfl := (show (67 : Nat) = f from congrArg (fun x => x.2.2) hr)
    exact hI
  | 6, _, hr =>
    obtain rfl := (show (2 : Int) = st from congrArg (fun x => x.1) hr)
    obtain rfl := (show (6 : Int) = ek from congrArg (fun x => x.2.1) hr)
    obtain rfl := (show (67 : Nat) = f from congrArg (fun x => x.2.2) hr)
    exact hI
  | 7, _, hr =>
    obtain rfl := (show (2 : Int) = st from congrArg (fun x => x.1) hr)
    obtain rfl := (show (7 : Int) = ek from congrArg (fun x => x.2.1) hr)
    obtain rfl := (show (71 : Nat) = f from congrArg (fun x => x.2.2) hr)
    obtain rfl : tm = false := hI.tm
    obtain rfl : ca = 1 := hI.ca
    exact RI3
  | 8, _, hr =>
    obtain rfl := (show (2 : Int) = st from congrArg (fun x => x.1) hr)
    obtain rfl := (show (8 : Int) = ek from congrArg (fun x => x.2.1) hr)
    obtain rfl := (show (72 : Nat) = f from congrArg (fun x => x.2.2) hr)
    obtain rfl : tm = false := hI.tm
    obtain rfl : ca = 1 := hI.ca
    exact RI4
  | 9, _, hr =>
    obtain rfl := (show (2 : Int) = st from congrArg (fun x => x.1) hr)
    obtain rfl := (show (9 : Int) = ek from congrArg (fun x => x.2.1) hr)
    obtain rfl := (show (73 : Nat) = f from congrArg (fun x => x.2.2) hr)
    obtain rfl : tm = false := hI.tm
    obtain rfl : ca = 1 := hI.ca
    exact RI5
  | 10, _, hr =>
    obtain rfl := (show (2 : Int) = st from congrArg (fun x => x.1) hr)
    obtain rfl := (show (2 : Int) = ek from congrArg (fun x => x.2.1) hr)
    obtain rfl := (show (74 : Nat) = f from congrArg (fun x => x.2.2) hr)
    obtain rfl : tm = false := hI.tm
    obtain rfl : ca = 1 := hI.ca
    exact RI0
  | 11, _, hr =>
    obtain rfl := (show (3 : Int) = st from congrArg (fun x => x.1) hr)
    obtain rfl := (show (3 : Int) = ek from congrArg (fun x => x.2.1) hr)
    obtain rfl := (show (67 : Nat) = f from congrArg (fun x => x.2.2) hr)
    exact hI
  | 12, _, hr =>
    obtain rfl := (show (3 : Int) = st from congrArg (fun x => x.1) hr)
    obtain rfl := (show (8 : Int) = ek from congrArg (fun x => x.2.1) hr)
    obtain rfl := (show (72 : Nat) = f from congrArg (fun x => x.2.2) hr)
    obtain rfl : tm = false := hI.tm
    obtain rfl : ca = 1 := hI.ca
    exact RI4
  | 13, _, hr =>
    obtain rfl := (show (3 : Int) = st from congrArg (fun x => x.1) hr)
    obtain rfl := (show (9 : Int) = ek from congrArg (fun x => x.2.1) hr)
    obtain rfl := (show (73 : Nat) = f from congrArg (fun x => x.2.2) hr)
    obtain rfl : tm = false := hI.tm
    obtain rfl : ca = 1 := hI.ca
    exact RI5
  | 14, _, hr =>
    obtain rfl := (show (3 : Int) = st from congrArg (fun x => x.1) hr)
    obtain rfl := (show (2 : Int) = ek from congrArg (fun x => x.2.1) hr)
    obtain rfl := (show (74 : Nat) = f from congrArg (fun x => x.2.2) hr)
    obtain rfl : tm = false := hI.tm
    obtain rfl : ca = 1 := hI.ca
    exact RI0
  | 15, _, hr =>
    obtain rfl := (show (4 : Int) = st from congrArg (fun x => x.1) hr)
    obtain rfl := (show (3 : Int) = ek from congrArg (fun x => x.2.1) hr)
    obtain rfl := (show (67 : Nat) = f from congrArg (fun x => x.2.2) hr)
    exact hI
  | 16, _, hr =>
    obtain rfl := (show (4 : Int) = st from congrArg (fun x => x.1) hr)
    obtain rfl := (show (9 : Int) = ek from congrArg (fun x => x.2.1) hr)
    obtain rfl := (show (73 : Nat) = f from congrArg (fun x => x.2.2) hr)
    obtain rfl : tm = false := hI.tm
    obtain rfl : ca = 1 := hI.ca
    exact RI5
  | 17, _, hr =>
    obtain rfl := (show (4 : Int) = st from congrArg (fun x => x.1) hr)
    obtain rfl := (show (2 : Int) = ek from congrArg (fun x => x.2.1) hr)
    obtain rfl := (show (74 : Nat) = f from congrArg (fun x => x.2.2) hr)
    obtain rfl : tm = false := hI.tm
    obtain rfl : ca = 1 := hI.ca
    exact RI0
  | 18, _, hr =>
    obtain rfl := (show (5 : Int) = st from congrArg (fun x => x.1) hr)
    obtain rfl := (show (3 : Int) = ek from congrArg (fun x => x.2.1) hr)
    obtain rfl := (show (67 : Nat) = f from congrArg (fun x => x.2.2) hr)
    exact hI
  | 19, _, hr =>
    obtain rfl := (show (5 : Int) = st from congrArg (fun x => x.1) hr)
    obtain rfl := (show (2 : Int) = ek from congrArg (fun x => x.2.1) hr)
    obtain rfl := (show (75 : Nat) = f from congrArg (fun x => x.2.2) hr)
    obtain rfl : tm = false := hI.tm
    obtain rfl : ca = 0 := hI.ca
    exact RI0
  | n + 20, hj, _ => exact absurd hj (by omega)

theorem run_ev (l : Rl) (evs : List S47) (h200 : evs.length ≤ 200) : ∀ (m i : Nat), evs.length - i = m → i ≤ evs.length → ∀ (st : Int) (d : ByteArray) (h : H4), RI st d h →
    ∃ st' d' h', RI st' d' h' ∧ Ev (fun k => crossbarlaw16_run.l0 k l evs (i : Int) st d h.1 h.2.1 h.2.2.1 h.2.2.2) (st', d', h'.1, h'.2.1, h'.2.2.1, h'.2.2.2) := by
  intro m
  induction m with
  | zero =>
    intro i hm hi st d h hI
    refine ⟨st, d, h, hI, ?_⟩
    refine Ev.step (fun k => crossbarlaw16_run.l0.eq_2 _ _ _ _ _ _ _ _ _ k) ?_
    exact Ev.if_neg (by omega) (Ev.now _)
  | succ m ih =>
    intro i hm hi st d h hI
    have hil : i < evs.length := by omega
    obtain ⟨⟨ek, ec, ed⟩, hev⟩ : ∃ e, evs[i] = e := ⟨_, rfl⟩
    have hsz := hI.sz
    have hS := Step_ev l st d ek ec ed (by omega)
    have hw : wrap64 ((i : Int) + 1) = ((i + 1 : Nat) : Int) := by rw [wS (by omega) (by omega)]; omega
    by_cases he : (stepI l st d ek ec ed).2.2.2 = 0
    · have hI' := RI_step hI he
      obtain ⟨st', d', h', hR, hE⟩ := ih (i + 1) (by omega) (by omega) _ _ _ hI'
      refine ⟨st', d', h', hR, ?_⟩
      refine Ev.step (fun k => crossbarlaw16_run.l0.eq_2 _ _ _ _ _ _ _ _ _ k) ?_
      refine Ev.if_pos (by omega) ?_
      refine Ev.if_pos (by omega) ?_
      rw [rd_evt evs i hil, hev]
      refine Ev.bind hS ?_
      refine Ev.if_pos he ?_
      obtain ⟨tm, ca, ton, ok⟩ := h
      have hca : ca = if st = 2 ∨ st = 3 ∨ st = 4 then 1 else 0 := hI.ca
      have hcb : 0 ≤ ca ∧ ca ≤ 1 := by rw [hca]; split <;> omega
      have hal : (stepI l st d ek ec ed).2.2.1.length < 1000 := by
        have := step_len l st d ek ec ed
        omega
      have main : Ev (fun k => crossbarlaw16_run.j1 k l evs (i : Int) (stepI l st d ek ec ed).2.2.1 st d (if ek = 4 then false else tm) ca ton ok (stepI l st d ek ec ed).1 (stepI l st d ek ec ed).2.1) (st', d', h'.1, h'.2.1, h'.2.2.1, h'.2.2.2) := by
        have j2 : Ev (fun k => crossbarlaw16_run.j2 k l evs (i : Int) (stepI l st d ek ec ed).2.2.1 st d (if ek = 4 then false else tm) (if ek = 9 then ca - 1 else ca) ton ok (stepI l st d ek ec ed).1 (stepI l st d ek ec ed).2.1) (st', d', h'.1, h'.2.1, h'.2.2.1, h'.2.2.2) := by
          refine Ev.step (fun k => crossbarlaw16_run.j2.eq_2 _ _ _ _ _ _ _ _ _ _ _ _ k) ?_
          refine run_l1 l evs (i : Int) st d _ _ _ _ hal _ 0 rfl (Nat.zero_le _) (if ek = 4 then false else tm, if ek = 9 then ca - 1 else ca, ton, ok) ?_ ?_ ?_
          · simp only
            split <;> omega
          · simp only
            split <;> omega
          · rw [hw]
            exact hE
        refine Ev.step (fun k => crossbarlaw16_run.j1.eq_2 _ _ _ _ _ _ _ _ _ _ _ _ k) ?_
        refine Ev.if_pos (by omega) ?_
        refine Ev.if_pos (by omega) ?_
        rw [rd_evt evs i hil, hev]
        by_cases c9 : ek = 9
        · rw [_root_.if_pos c9] at j2
          refine Ev.if_pos c9 ?_
          rw [wS (by omega) (by omega)]
          exact j2
        · rw [_root_.if_neg c9] at j2
          exact Ev.if_neg c9 j2
      by_cases c4 : ek = 4
      · rw [_root_.if_pos c4] at main
        exact Ev.if_pos c4 main
      · rw [_root_.if_neg c4] at main
        exact Ev.if_neg c4 main
    · obtain ⟨st', d', h', hR, hE⟩ := ih (i + 1) (by omega) (by omega) _ _ _ hI
      obtain ⟨e1, e2, e3⟩ := step_err he
      refine ⟨st', d', h', hR, ?_⟩
      refine Ev.step (fun k => crossbarlaw16_run.l0.eq_2 _ _ _ _ _ _ _ _ _ k) ?_
      refine Ev.if_pos (by omega) ?_
      refine Ev.if_pos (by omega) ?_
      rw [rd_evt evs i hil, hev]
      refine Ev.bind hS ?_
      refine Ev.if_neg he ?_
      refine Ev.if_pos hI.ok ?_
      refine Ev.if_pos (by rw [e3]; rfl) ?_
      rw [e1, e2, hw, show ((0 : Int) == 0 && ((⟨#[]⟩ : ByteArray).toList == ([] : List UInt8))) = true from by kernel_rfl]
      have hok := hI.ok
      rw [hok] at hE
      exact hE
theorem run_all (l : Rl) (evs : List S47) (h200 : evs.length ≤ 200) : ∃ st' d' h', RI st' d' h' ∧ Ev (fun k => crossbarlaw16_run.f k l evs) (st', d', h'.1, h'.2.1, h'.2.2.1, h'.2.2.2) :=
  run_ev l evs h200 evs.length 0 (by omega) (Nat.zero_le _) 0 ⟨#[]⟩ (false, 0, 0, true) RI00
theorem few_ev (l : Rl) (evs : List S47) : ∃ b, Ev (fun k => crossbarlaw16_few.f k l evs) b ∧ (b = true → evs.length ≤ 200) := by
  obtain ⟨b, hb, _⟩ := Few_ev l ⟨#[]⟩
  unfold crossbarlaw16_few.f crossbarref16_Few.f
  cases b with
  | false => exact ⟨false, Ev.bind (Ev.bind hb (Ev.now _)) (Ev.if_neg (by decide) (Ev.now _)), fun h => by cases h⟩
  | true => exact ⟨decide ((evs.length : Int) ≤ 200), Ev.bind (Ev.bind hb (Ev.now _)) (Ev.if_pos rfl (Ev.now _)), fun h => by have := of_decide_eq_true h; omega⟩

end Go.Proofs.YthknfclhkmehgaaDoor.Fn