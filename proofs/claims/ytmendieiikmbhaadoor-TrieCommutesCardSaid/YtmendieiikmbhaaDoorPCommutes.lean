/-
  PLAIN LAW: TrieCommutes' function answers true.
-/
import Derived.Test.YtmendieiikmbhaaDoorPTrie
import Derived.Test.YtmendieiikmbhaaDoorFn26
namespace Go.Proofs.YtmendieiikmbhaaDoor.Fn
open Go.RowKit Go.Proofs.YtmendieiikmbhaaDoorW.PrintWords Go.Proofs.YtmendieiikmbhaaDoorW.PrintLast Go.Proofs.YtmendieiikmbhaaDoorW.PrintMore
set_option linter.unusedVariables false
set_option linter.unusedSimpArgs false

theorem commutes_pure (l : Tl) (a1 : ByteArray) (a2 : Int) (a3 : ByteArray) (a4 : Int) : ∃ k, crossbarlaw07_TrieCommutes.f k l a1 a2 a3 a4 = some true := by
  refine Ev.rounds (g := fun k => crossbarlaw07_TrieCommutes.f k l a1 a2 a3 a4) ?_
  unfold crossbarlaw07_TrieCommutes.f
  refine Ev.bind (a := true) (Ev.done rfl) ?_
  refine Ev.if_pos rfl ?_
  have skip : Ev (fun k => crossbarlaw07_TrieCommutes.j0 k a1 a2 a3 a4 true l) true := by
    refine Ev.step (fun k => crossbarlaw07_TrieCommutes.j0.eq_2 _ _ _ _ _ _ k) ?_
    exact Ev.if_pos rfl (Ev.now _)
  by_cases h : (l.length : Int) > 400
  · exact Ev.if_pos h skip
  refine Ev.if_neg h ?_
  by_cases h1 : (a1.size : Int) > 40
  · exact Ev.if_pos h1 skip
  refine Ev.if_neg h1 ?_
  by_cases h3 : (a3.size : Int) > 40
  · exact Ev.if_pos h3 skip
  refine Ev.if_neg h3 ?_
  by_cases hpq : a1.data.toList = a3.data.toList
  · rw [show (a1.toList == a3.toList) = true by rw [bytes_list, bytes_list, hpq]; exact beq_self_eq_true _]
    exact skip
  rw [show (a1.toList == a3.toList) = false by rw [bytes_list, bytes_list]; exact beq_eq_false_iff_ne.2 hpq]
  refine Ev.step (fun k => crossbarlaw07_TrieCommutes.j0.eq_2 _ _ _ _ _ _ k) ?_
  refine Ev.if_neg (by decide) ?_
  refine Ev.bind (Put_ev l a1 a2 (by omega)) ?_
  refine Ev.bind (Put_ev l a3 a4 (by omega)) ?_
  have skip1 : Ev (fun k => crossbarlaw07_TrieCommutes.j1 k a1 a2 a3 a4 true l (putV l a1 a2).1 (putV l a3 a4).1) true := by
    refine Ev.step (fun k => crossbarlaw07_TrieCommutes.j1.eq_2 _ _ _ _ _ _ _ _ k) ?_
    exact Ev.if_pos rfl (Ev.now _)
  by_cases h0 : (putV l a1 a2).2 = 0
  · refine Ev.if_pos h0 ?_
    by_cases h0' : (putV l a3 a4).2 = 0
    · rw [show ((putV l a3 a4).2 != 0) = false by rw [h0']; rfl]
      obtain ⟨hp, _⟩ := putV_zero h0
      obtain ⟨hq, _⟩ := putV_zero h0'
      obtain ⟨hA, okA⟩ := putV_okay h0
      obtain ⟨hB, okB⟩ := putV_okay h0'
      have hl1 : a1.data.toList.length ≤ 15 := by rw [size_len]; exact hp.len
      have hl3 : a3.data.toList.length ≤ 15 := by rw [size_len]; exact hq.len
      clear skip skip1
      generalize (putV l a1 a2).1 = A at hA okA ⊢
      generalize (putV l a3 a4).1 = B at hB okB ⊢
      have sA := (Tr.put_size hp.ok.1 hp.dig hl1 a2).2
      have sB := (Tr.put_size hq.ok.1 hq.dig hl3 a4).2
      rw [← hA] at sA
      rw [← hB] at sB
      have sC := (Tr.put_size okA.1 hq.dig hl3 a4).2
      have sD := (Tr.put_size okB.1 hp.dig hl1 a2).2
      have tl := tt_length l
      have okC : PutOk A a3 a4 := ⟨okA, hq.len, hq.dig, hq.lo, hq.hi⟩
      have okD : PutOk B a1 a2 := ⟨okB, hp.len, hp.dig, hp.lo, hp.hi⟩
      obtain ⟨c1, c2⟩ := putV_good okC (by omega)
      obtain ⟨d1, d2⟩ := putV_good okD (by omega)
      have c3 := (putV_okay c1).2
      have d3 := (putV_okay d1).2
      obtain ⟨x1, x2, x3⟩ := dropV_okay okA hp.len hp.dig
      refine Ev.step (fun k => crossbarlaw07_TrieCommutes.j1.eq_2 _ _ _ _ _ _ _ _ k) ?_
      refine Ev.if_neg (by decide) ?_
      refine Ev.bind (Put_ev A a3 a4 (by omega)) ?_
      refine Ev.bind (Put_ev B a1 a2 (by omega)) ?_
      refine Ev.bind (Drop_ev A a1 (by omega)) ?_
      refine Ev.if_pos (c1.trans d1.symm) ?_
      refine Ev.if_pos x1 ?_
      refine Ev.if_pos c1 ?_
      generalize (putV A a3 a4).1 = C at c2 c3 ⊢
      generalize (putV B a1 a2).1 = D at d2 d3 ⊢
      generalize (dropV A a1).1 = X at x2 x3 ⊢
      have lA : ∀ s, Tr.Dig s → Tr.look (tt A) s = if s = a1.data.toList then a2 else Tr.look (tt l) s := fun s ds => by rw [hA]; exact Tr.put_look hp.ok.1 hp.dig hl1 a2 ds
      have lB : ∀ s, Tr.Dig s → Tr.look (tt B) s = if s = a3.data.toList then a4 else Tr.look (tt l) s := fun s ds => by rw [hB]; exact Tr.put_look hq.ok.1 hq.dig hl3 a4 ds
      have e1 : entV C = entV D := by
        rw [entV_ok c3, entV_ok d3]
        congr 1
        refine Tr.entries_congr c3.1 d3.1 fun s ds => ?_
        rw [c2, d2, Tr.put_look okA.1 hq.dig hl3 a4 ds, Tr.put_look okB.1 hp.dig hl1 a2 ds, lA s ds, lB s ds]
        by_cases e1 : s = a1.data.toList
        · have e3 : s ≠ a3.data.toList := fun e => hpq (e1.symm.trans e)
          rw [_root_.if_pos e1, _root_.if_pos e1, _root_.if_neg e3]
        · rw [_root_.if_neg e1, _root_.if_neg e1]
      have e2 : entV X = woV (entV l) a1 := by
        rw [entV_ok x3, entV_ok hp.ok, woV_map]
        congr 1
        refine Tr.entries_without hp.ok.1 x3.1 fun s ds => ?_
        rw [x2, Tr.drop_look okA.1 hp.dig ds, lA s ds]
        by_cases h : s = a1.data.toList
        · rw [_root_.if_pos h, _root_.if_pos h]
        · rw [_root_.if_neg h, _root_.if_neg h, _root_.if_neg h]
      refine Ev.step (fun k => crossbarlaw07_TrieCommutes.j2.eq_2 _ _ _ _ _ _ k) ?_
      refine Ev.if_neg (by decide) ?_
      refine Ev.bind (Ent_ev C) ?_
      refine Ev.bind (Ent_ev D) ?_
      rw [e1]
      refine Ev.bind (SameE_refl _ (by have := entV_len D; omega)) ?_
      refine Ev.if_pos rfl ?_
      refine Ev.bind (Ent_ev X) ?_
      refine Ev.bind (Ent_ev l) ?_
      refine Ev.bind (without_ev _ a1 (by have := entV_len l; omega)) ?_
      rw [e2]
      refine Ev.bind (SameE_refl _ (by have := entV_len l; have := woV_len (entV l) a1; omega)) ?_
      exact Ev.now _
    · rw [show ((putV l a3 a4).2 != 0) = true by simpa using h0']
      exact skip1
  · exact Ev.if_neg h0 skip1

end Go.Proofs.YtmendieiikmbhaaDoor.Fn
