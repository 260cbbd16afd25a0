/-
  PLAIN LAW: the reference's Check, Step and Actions of chapter 16 answer as the program's do.
-/
import Derived.Test.YthknfclhkmehgaaDoorPDialO
import Derived.Test.YthknfclhkmehgaaDoorPRef8
import Derived.Test.YthknfclhkmehgaaDoorERefS
import Derived.Test.YthknfclhkmehgaaDoorFn6
import Derived.Test.YthknfclhkmehgaaDoorFn3
namespace Go.Proofs.YthknfclhkmehgaaDoor.Fn
open Go.RowKit Go.Proofs.YthknfclhkmehgaaDoorW.PrintWords Go.Proofs.YthknfclhkmehgaaDoorW.PrintLast Go.Proofs.YthknfclhkmehgaaDoorW.PrintMore
set_option linter.unusedVariables false
set_option linter.unusedSimpArgs false

theorem valid16 (l : Rl) (st : Int) (d : ByteArray) (hs : d.size < 1000000) (h : chkR l = 0) : Ev (fun k => crossbarref16_valid.f k st d l) (decide (chkO l st d = 0)) := by
  have k0 : ¬ chkR l ≠ 0 := fun hh => hh h
  by_cases hb : st < 0 ∨ 5 < st
  · rw [show chkO l st d = 1 from (_root_.if_neg k0).trans (_root_.if_pos hb)]
    unfold crossbarref16_valid.f
    by_cases h0 : st < 0
    · refine Ev.if_pos h0 ?_
      refine Ev.step (fun k => crossbarref16_valid.j0.eq_2 _ _ _ _ k) ?_
      exact Ev.if_pos rfl (Ev.now _)
    · refine Ev.if_neg h0 ?_
      refine Ev.step (fun k => crossbarref16_valid.j0.eq_2 _ _ _ _ k) ?_
      exact Ev.if_pos (decide_eq_true (by omega)) (Ev.now _)
  have start : ∀ r, Ev (fun k => if st = 1 then (if (d.size : Int) > 20 then (some false) else ((crossbarref08_Analyze.f k l d false).bind fun bt133 => (if bt133.2.2 = 0 then (some (bt133.1 == 1)) else (some false)))) else (some (d.toList == ([] : List UInt8)))) r → Ev (fun k => crossbarref16_valid.f k st d l) r := by
    intro r hr
    unfold crossbarref16_valid.f
    refine Ev.if_neg (by omega) ?_
    refine Ev.step (fun k => crossbarref16_valid.j0.eq_2 _ _ _ _ k) ?_
    exact Ev.if_neg (by rw [decide_eq_false (by omega : ¬ st > 5)]; decide) hr
  refine start _ ?_
  by_cases h1 : st = 1
  · rw [show chkO l st d = (if (anaI l d false).2.2 = 0 ∧ (anaI l d false).1 = 1 ∧ d.size ≤ 20 then 0 else 1) from (_root_.if_neg k0).trans ((_root_.if_neg hb).trans (_root_.if_pos h1))]
    refine Ev.if_pos h1 ?_
    by_cases c3 : (d.size : Int) > 20
    · rw [_root_.if_neg (fun hh => by omega)]
      exact Ev.if_pos c3 (Ev.now _)
    refine Ev.if_neg c3 ?_
    refine Ev.bind (Analyze8 l d false (by omega)) ?_
    by_cases c1 : (anaI l d false).2.2 = 0
    · refine Ev.if_pos c1 ?_
      by_cases c2 : (anaI l d false).1 = 1
      · rw [_root_.if_pos ⟨c1, c2, by omega⟩]
        refine Ev.done ?_
        rw [c2]
        rfl
      · rw [_root_.if_neg (fun hh => c2 hh.2.1)]
        refine Ev.done ?_
        rw [beq_eq_false_iff_ne.2 c2]
        rfl
    · rw [show (if (anaI l d false).2.2 = 0 ∧ (anaI l d false).1 = 1 ∧ d.size ≤ 20 then (0 : Int) else 1) = 1 from _root_.if_neg (fun hh => c1 hh.1)]
      exact Ev.if_neg c1 (Ev.now _)
  · rw [show chkO l st d = (if d.size = 0 then 0 else 1) from (_root_.if_neg k0).trans ((_root_.if_neg hb).trans (_root_.if_neg h1))]
    refine Ev.if_neg h1 (Ev.done ?_)
    by_cases c : d.size = 0
    · rw [_root_.if_pos c, (nil_iff d).2 c]
      rfl
    · rw [_root_.if_neg c, beq_eq_false_iff_ne.2 (fun hh => c ((nil_iff d).1 hh))]
      rfl
theorem chkO_one {l : Rl} {st : Int} {d : ByteArray} (h : chkR l = 0) (h1 : chkO l st d ≠ 0) : chkO l st d = 1 := by
  have k0 : ¬ chkR l ≠ 0 := fun hh => hh h
  unfold chkO at h1 ⊢
  rw [_root_.if_neg k0] at h1 ⊢
  split
  · rfl
  · rename_i hb
    rw [_root_.if_neg hb] at h1
    split
    · rename_i hc
      rw [_root_.if_pos hc] at h1
      split
      · rename_i hd
        rw [_root_.if_pos hd] at h1
        exact absurd rfl h1
      · rfl
    · rename_i hc
      rw [_root_.if_neg hc] at h1
      split
      · rename_i hd
        rw [_root_.if_pos hd] at h1
        exact absurd rfl h1
      · rfl
theorem Check16 (l : Rl) (st : Int) (d : ByteArray) (hs : d.size < 1000000) : Ev (fun k => crossbarref16_Check.f k st d l) (chkO l st d) := by
  unfold crossbarref16_Check.f
  refine Ev.bind (Check8 l) ?_
  by_cases h : chkR l = 0
  · refine Ev.if_pos h ?_
    refine Ev.bind (valid16 l st d hs h) ?_
    by_cases h1 : chkO l st d = 0
    · rw [h1]
      exact Ev.if_pos rfl (Ev.now _)
    · rw [decide_eq_false h1, chkO_one h h1]
      exact Ev.if_neg (by decide) (Ev.now _)
  · rw [show chkO l st d = chkR l from _root_.if_pos h]
    exact Ev.if_neg h (Ev.now _)

theorem enc_ten16 : ∀ n : Fin 10, (Utf8.encode (((n : Nat) + 48 : Nat) : Int)).data.toList = [UInt8.ofNat ((n : Nat) + 48)] := by decide +kernel
theorem enc_one {ed : Int} (h0 : 48 ≤ ed) (h1 : ed ≤ 57) : strOfNums [ed] = Utf8.encode ed := by
  obtain ⟨n, rfl⟩ : ∃ n : Nat, ed = ((n + 48 : Nat) : Int) := ⟨(ed - 48).toNat, by omega⟩
  have h := enc_ten16 ⟨n, by omega⟩
  have e : (strOfNums [((n + 48 : Nat) : Int)]).data.toList = (Utf8.encode ((n + 48 : Nat) : Int)).data.toList := by
    rw [h]
    rfl
  have e2 := Array.ext' e
  cases ha : strOfNums [((n + 48 : Nat) : Int)] with
  | mk a =>
    cases hb : Utf8.encode ((n + 48 : Nat) : Int) with
    | mk b =>
      rw [ha, hb] at e2
      exact congrArg ByteArray.mk e2
theorem dig16 (l : Rl) (d : ByteArray) (ed : Int) (hs : d.size < 1000000) (h0 : 48 ≤ ed) (h1 : ed ≤ 57) : Ev (fun k => digRF k l d ed) (digI l d ed) := by
  have hd : d ++ strOfNums [ed] = digD d ed := by
    unfold digD
    rw [enc_one h0 h1]
  have hz : silR d = sil d := rfl
  unfold digRF
  rw [hd, hz]
  refine Ev.if_pos hs ?_
  refine Ev.bind (Analyze8 l (digD d ed) false (by rw [digD_size h0 h1]; omega)) ?_
  by_cases c : (anaI l (digD d ed) false).1 = 1
  · rw [show digI l d ed = (1, digD d ed, sil d ++ [⟨9, 0, ⟨#[]⟩, 10⟩]) from _root_.if_pos c]
    exact Ev.if_pos c (Ev.now _)
  · rw [show digI l d ed = decP l (digD d ed) (anaI l (digD d ed) false).1 (anaI l (digD d ed) false).2.1 (sil d ++ [actK 10]) from _root_.if_neg c]
    refine Ev.if_neg c ?_
    exact Ev.if_pos (ana_in l _ _) (Ev.now _)
/-- What Step answers behind its two checks. -/
def afterI (l : Rl) (st : Int) (d : ByteArray) (ek ec ed : Int) : Int × ByteArray × Al × Int :=
  match tabI st ek with
  | none => (0, ⟨#[]⟩, [], 160)
  | some f => ((methI l st d ec ed f).1, (methI l st d ec ed f).2.1, (methI l st d ec ed f).2.2, 0)
theorem badE_rng {ek ec ed : Int} (h : badE ek ec ed = false) : 1 ≤ ek ∧ ek ≤ 12 := by
  unfold badE at h
  simp at h
  omega
theorem ek_cases {ek : Int} (h : 1 ≤ ek ∧ ek ≤ 12) : ek = 1 ∨ ek = 2 ∨ ek = 3 ∨ ek = 4 ∨ ek = 5 ∨ ek = 6 ∨ ek = 7 ∨ ek = 8 ∨ ek = 9 ∨ ek = 10 ∨ ek = 11 ∨ ek = 12 := by omega
theorem col16 (l : Rl) (d : ByteArray) (ek ec ed : Int) (hs : d.size < 1000000) (hb : badE ek ec ed = false) : Ev (fun k => colRF k l d ek ed) (afterI l 1 d ek ec ed) := by
  have dead : ∀ e : Int, e ≠ 3 → e ≠ 4 → e ≠ 2 → Ev (fun k => colRF k l d e ed) (0, ⟨#[]⟩, [], 160) := by
    intro e h3 h4 h2
    unfold colRF
    exact Ev.if_neg h3 (Ev.if_neg h4 (Ev.if_neg h2 (Ev.now _)))
  rcases ek_cases (badE_rng hb) with rfl | rfl | rfl | rfl | rfl | rfl | rfl | rfl | rfl | rfl | rfl | rfl
  · exact dead 1 (by decide) (by decide) (by decide)
  · unfold colRF
    exact Ev.if_neg (by decide) (Ev.if_neg (by decide) (Ev.if_pos rfl (Ev.now _)))
  · obtain ⟨h0, h1⟩ := badE_dig hb
    unfold colRF
    refine Ev.if_pos rfl ?_
    exact Ev.bind (dig16 l d ed hs h0 h1) (Ev.now _)
  · show Ev (fun k => colRF k l d 4 ed) ((timI l d).1, (timI l d).2.1, (timI l d).2.2, 0)
    unfold colRF
    refine Ev.if_neg (by decide) (Ev.if_pos rfl ?_)
    by_cases c : d.size = 0
    · rw [show timI l d = (5, ⟨#[]⟩, [⟨3, 102, ⟨#[]⟩, 0⟩]) from _root_.if_pos c]
      exact Ev.if_pos c (Ev.now _)
    · rw [show timI l d = decP l d (anaI l d true).1 (anaI l d true).2.1 [] from _root_.if_neg c]
      refine Ev.if_neg c ?_
      refine Ev.bind (Analyze8 l d true (by omega)) ?_
      exact Ev.if_pos (ana_in l _ _) (Ev.now _)
  · exact dead 5 (by decide) (by decide) (by decide)
  · exact dead 6 (by decide) (by decide) (by decide)
  · exact dead 7 (by decide) (by decide) (by decide)
  · exact dead 8 (by decide) (by decide) (by decide)
  · exact dead 9 (by decide) (by decide) (by decide)
  · exact dead 10 (by decide) (by decide) (by decide)
  · exact dead 11 (by decide) (by decide) (by decide)
  · exact dead 12 (by decide) (by decide) (by decide)
theorem refT_is (l : Rl) (st : Int) (d : ByteArray) (ek ec ed : Int) (hb : badE ek ec ed = false) (h0 : 0 ≤ st) (h5 : st ≤ 5) (h1 : st ≠ 1) (hd : d.size = 0) : refT st d ek ec = afterI l st d ek ec ed := by
  have hst : st = 0 ∨ st = 2 ∨ st = 3 ∨ st = 4 ∨ st = 5 := by omega
  rcases hst with rfl | rfl | rfl | rfl | rfl <;> rcases ek_cases (badE_rng hb) with rfl | rfl | rfl | rfl | rfl | rfl | rfl | rfl | rfl | rfl | rfl | rfl <;> rfl
theorem Step16 (l : Rl) (st : Int) (d : ByteArray) (ek ec ed : Int) (hs : d.size < 1000000) : Ev (fun k => crossbarref16_Step.f k st d l ek ec ed) (stepI l st d ek ec ed) := by
  unfold crossbarref16_Step.f
  refine Ev.bind (Check16 l st d hs) ?_
  by_cases h : chkO l st d = 0
  · have k0 : ¬ chkO l st d ≠ 0 := fun hh => hh h
    obtain ⟨_, g0, g1, _, g2⟩ := chkO_range h
    refine Ev.if_neg k0 ?_
    cases hb : badE ek ec ed with
    | true =>
      rw [show stepI l st d ek ec ed = (0, ⟨#[]⟩, [], 1) from (_root_.if_neg k0).trans (_root_.if_pos hb)]
      exact Ev.if_pos rfl (Ev.now _)
    | false =>
      rw [show stepI l st d ek ec ed = afterI l st d ek ec ed from (_root_.if_neg k0).trans (_root_.if_neg (by rw [hb]; decide))]
      refine Ev.if_neg (by decide) ?_
      by_cases c : st = 1
      · refine Ev.if_pos c ?_
        rw [c]
        exact col16 l d ek ec ed hs hb
      · refine Ev.if_neg c ?_
        refine Ev.if_pos ⟨g0, g1⟩ ?_
        exact Ev.done (refT_is l st d ek ec ed hb g0 g1 c (g2 c))
  · rw [show stepI l st d ek ec ed = (0, ⟨#[]⟩, [], chkO l st d) from _root_.if_pos h]
    exact Ev.if_pos h (Ev.now _)

theorem acts16_loop (x : Al) (hx : x.length < 9223372036854775807) : ∀ (m i : Nat), x.length - i = m → i ≤ x.length → Ev (fun k => crossbarref16_Actions.l0 k x x (i : Int)) true := by
  intro m
  induction m with
  | zero =>
    intro i hm hi
    refine Ev.step (fun k => crossbarref16_Actions.l0.eq_2 _ _ _ k) ?_
    exact Ev.if_neg (by omega) (Ev.now _)
  | succ m ih =>
    intro i hm hi
    refine Ev.step (fun k => crossbarref16_Actions.l0.eq_2 _ _ _ k) ?_
    refine Ev.if_pos (by omega) (Ev.if_pos (by omega) (Ev.if_pos (by omega) ?_))
    refine Ev.if_neg (by simp) ?_
    rw [w64s (by omega)]
    exact ih (i + 1) (by omega) (by omega)
theorem Actions16 (x : Al) (hx : x.length < 9223372036854775807) : Ev (fun k => crossbarref16_Actions.f k x x) true := by
  unfold crossbarref16_Actions.f
  exact Ev.if_pos rfl (acts16_loop x hx _ 0 rfl (by omega))

end Go.Proofs.YthknfclhkmehgaaDoor.Fn
