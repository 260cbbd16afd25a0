/-
  PLAIN LAW: TrieNodesShared's function answers true.
-/
import Derived.Test.YtmendieiikmbhaaDoorPTrie
import Derived.Test.YtmendieiikmbhaaDoorPSame
import Derived.Test.YtmendieiikmbhaaDoorFn27
namespace Go.Proofs.YtmendieiikmbhaaDoor.Fn
open Go.RowKit Go.Proofs.YtmendieiikmbhaaDoorW.PrintWords Go.Proofs.YtmendieiikmbhaaDoorW.PrintLast Go.Proofs.YtmendieiikmbhaaDoorW.PrintMore

theorem nodes_j1 (l A C : Tl) (a1 : ByteArray) (a2 : Int) (h40 : a1.size ≤ 40) (hp : PutOk l a1 a2) (hA : tt A = Tr.put (tt l) a1.data.toList a2) (okA : Ok A) (hC : tt C = Tr.drop (tt A) a1.data.toList) (okC : Ok C) :
    Ev (fun k => crossbarlaw07_TrieNodesShared.j1 k a1 false l A A C) true := by
  have hlen : a1.data.toList.length ≤ 15 := by rw [size_len]; exact hp.len
  have hsz := Tr.put_size hp.ok.1 hp.dig hlen a2
  rw [← hA, tt_length, tt_length, size_len] at hsz
  have hCl : C.length = A.length := by rw [← tt_length, hC, Tr.drop_size, tt_length]
  have hAl := okA.2
  have hll := hp.ok.2
  have hlook : ∀ s, Tr.Dig s → Tr.look (tt A) s = if s = a1.data.toList then a2 else Tr.look (tt l) s := fun s ds => by rw [hA]; exact Tr.put_look hp.ok.1 hp.dig hlen a2 ds
  have e1 : woV (entV A) a1 = woV (entV l) a1 := by
    rw [entV_ok okA, entV_ok hp.ok, woV_map, woV_map]
    congr 1
    exact Tr.without_congr hp.ok.1 okA.1 fun s ds hne => by rw [hlook s ds, _root_.if_neg hne]
  have e2 : entV C = woV (entV l) a1 := by
    rw [entV_ok okC, entV_ok hp.ok, woV_map]
    congr 1
    refine Tr.entries_without hp.ok.1 okC.1 fun s ds => ?_
    rw [hC, Tr.drop_look okA.1 hp.dig ds, hlook s ds]
    by_cases h : s = a1.data.toList
    · rw [_root_.if_pos h, _root_.if_pos h]
    · rw [_root_.if_neg h, _root_.if_neg h, _root_.if_neg h]
  refine Ev.step (fun k => crossbarlaw07_TrieNodesShared.j1.eq_2 _ _ _ _ _ _ k) ?_
  refine Ev.if_neg (by decide) ?_
  refine Ev.bind (Ent_ev l) ?_
  refine Ev.bind (without_ev _ a1 (by have := entV_len l; omega)) ?_
  refine Ev.if_pos (by omega) ?_
  refine Ev.if_pos (by rw [w64 (by omega) (by omega)]; omega) ?_
  refine Ev.bind (SameT_refl A (by omega)) ?_
  refine Ev.if_pos rfl ?_
  refine Ev.if_pos (by omega) ?_
  refine Ev.bind (Ent_ev A) ?_
  refine Ev.bind (without_ev _ a1 (by have := entV_len A; omega)) ?_
  rw [e1]
  refine Ev.bind (SameE_refl _ (by have := entV_len l; have := woV_len (entV l) a1; omega)) ?_
  refine Ev.if_pos rfl ?_
  refine Ev.bind (Ent_ev C) ?_
  rw [e2]
  refine Ev.bind (SameE_refl _ (by have := entV_len l; have := woV_len (entV l) a1; omega)) ?_
  exact Ev.now _

theorem nodes_pure (l : Tl) (a1 : ByteArray) (a2 : Int) : ∃ k, crossbarlaw07_TrieNodesShared.f k l a1 a2 = some true := by
  refine Ev.rounds (g := fun k => crossbarlaw07_TrieNodesShared.f k l a1 a2) ?_
  unfold crossbarlaw07_TrieNodesShared.f
  refine Ev.bind (a := true) (Ev.done rfl) ?_
  refine Ev.if_pos rfl ?_
  have skip : Ev (fun k => crossbarlaw07_TrieNodesShared.j0 k a1 a2 true l) true := by
    refine Ev.step (fun k => crossbarlaw07_TrieNodesShared.j0.eq_2 _ _ _ _ k) ?_
    exact Ev.if_pos rfl (Ev.now _)
  by_cases h : (l.length : Int) > 400
  · exact Ev.if_pos h skip
  refine Ev.if_neg h ?_
  by_cases h40 : (a1.size : Int) > 40
  · rw [decide_eq_true h40]
    exact skip
  rw [decide_eq_false h40]
  have h40' : a1.size ≤ 40 := by omega
  refine Ev.step (fun k => crossbarlaw07_TrieNodesShared.j0.eq_2 _ _ _ _ k) ?_
  refine Ev.if_neg (by decide) ?_
  refine Ev.bind (Put_ev l a1 a2 (by omega)) ?_
  by_cases h0 : (putV l a1 a2).2 = 0
  · refine Ev.if_pos h0 ?_
    obtain ⟨hp, hl⟩ := putV_zero h0
    obtain ⟨hA, okA⟩ := putV_okay h0
    have hlen : a1.data.toList.length ≤ 15 := by rw [size_len]; exact hp.len
    generalize (putV l a1 a2).1 = A at hA okA ⊢
    have hp2 : PutOk A a1 a2 := ⟨okA, hp.len, hp.dig, hp.lo, hp.hi⟩
    have hpp : Tr.put (tt A) a1.data.toList a2 = tt A := by rw [hA]; exact Tr.put_put hp.ok.1 hp.dig hlen a2
    obtain ⟨b1, b2⟩ := putV_good hp2 (by rw [hpp, tt_length]; exact okA.2)
    have b3 : (putV A a1 a2).1 = A := tt_inj (b2.trans hpp)
    obtain ⟨c1, c2, c3⟩ := dropV_okay okA hp.len hp.dig
    refine Ev.bind (Put_ev A a1 a2 (by omega)) ?_
    refine Ev.bind (Drop_ev A a1 (by omega)) ?_
    refine Ev.if_pos b1 ?_
    refine Ev.if_pos c1 ?_
    refine Ev.bind (Check_ok okA) ?_
    refine Ev.if_pos rfl ?_
    refine Ev.bind (Check_ok c3) ?_
    rw [b3]
    exact nodes_j1 l A _ a1 a2 h40' hp hA okA c2 c3
  · refine Ev.if_neg h0 ?_
    rw [putV_nil h0]
    exact Ev.now _

end Go.Proofs.YtmendieiikmbhaaDoor.Fn
