/-
  PLAIN LAW: OriginTimeoutDecides' function answers true.
-/
import Derived.Test.YthknfclhkmehgaaDoorPValid
import Derived.Test.YthknfclhkmehgaaDoorFn22
namespace Go.Proofs.YthknfclhkmehgaaDoor.Fn
open Go.RowKit Go.Proofs.YthknfclhkmehgaaDoorW.PrintWords Go.Proofs.YthknfclhkmehgaaDoorW.PrintLast Go.Proofs.YthknfclhkmehgaaDoorW.PrintMore
set_option linter.unusedVariables false
set_option linter.unusedSimpArgs false

theorem enc_ten : ∀ n : Fin 10, (Utf8.encode (((n : Nat) + 48 : Nat) : Int)).data.toList = [UInt8.ofNat ((n : Nat) + 48)] := by decide +kernel
theorem digD_list {d : ByteArray} {b : UInt8} (h0 : 48 ≤ (b.toNat : Int)) (h1 : (b.toNat : Int) ≤ 57) : (digD d (b.toNat : Int)).data.toList = d.data.toList ++ [b] := by
  have h := enc_ten ⟨b.toNat - 48, by omega⟩
  rw [show ((⟨b.toNat - 48, by omega⟩ : Fin 10) : Nat) + 48 = b.toNat by show b.toNat - 48 + 48 = b.toNat; omega] at h
  unfold digD
  rw [ByteArray.data_append, Array.toList_append, h, show UInt8.ofNat b.toNat = b by simp]
def dgE (b : UInt8) : S47 := ⟨3, 0, ((b.toNat : Nat) : Int)⟩
theorem step_dig {l : Rl} {d : ByteArray} {ec ed : Int} (he : (stepI l 1 d 3 ec ed).2.2.2 = 0) : badE 3 ec ed = false ∧ stepI l 1 d 3 ec ed = ((digI l d ed).1, (digI l d ed).2.1, (digI l d ed).2.2, 0) := by
  obtain ⟨_, hb, f, ht, hs⟩ := step_zero' he
  obtain rfl : 68 = f := Option.some.inj ht
  exact ⟨hb, hs⟩
theorem step_ign {l : Rl} {st : Int} {d : ByteArray} {ec ed : Int} (h : st = 2 ∨ st = 5) (he : (stepI l st d 3 ec ed).2.2.2 = 0) : stepI l st d 3 ec ed = (st, d, [], 0) := by
  obtain ⟨_, hb, f, ht, hs⟩ := step_zero' he
  rcases h with rfl | rfl
  · obtain rfl : 67 = f := Option.some.inj ht
    exact hs
  · obtain rfl : 67 = f := Option.some.inj ht
    exact hs
theorem dialE_cons {l : Rl} {e : S47} {es : List S47} {st : Int} {d : ByteArray} {acts : Al} (he : (dialE l (e :: es) st d acts).2.2.2 = 0) : (stepI l st d e.f0 e.f1 e.f2).2.2.2 = 0 ∧ dialE l (e :: es) st d acts = dialE l es (stepI l st d e.f0 e.f1 e.f2).1 (stepI l st d e.f0 e.f1 e.f2).2.1 (acts ++ (stepI l st d e.f0 e.f1 e.f2).2.2.1) := by
  by_cases c : (stepI l st d e.f0 e.f1 e.f2).2.2.2 = 0
  · exact ⟨c, _root_.if_neg (fun hh => hh c)⟩
  · rw [show dialE l (e :: es) st d acts = (0, ⟨#[]⟩, [], (stepI l st d e.f0 e.f1 e.f2).2.2.2) from _root_.if_pos c] at he
    exact absurd he c
set_option maxRecDepth 100000 in
/-- Where the digits are still collected, they are all there. -/
theorem dialE_collect (l : Rl) : ∀ (bs : List UInt8) (st : Int) (d : ByteArray) (acts : Al), (st = 1 ∨ st = 2 ∨ st = 5) → (dialE l (bs.map dgE) st d acts).2.2.2 = 0 → (dialE l (bs.map dgE) st d acts).1 = 1 → st = 1 ∧ (dialE l (bs.map dgE) st d acts).2.1.data.toList = d.data.toList ++ bs
  | [], st, d, acts, _, _, h1 => ⟨h1, by show d.data.toList = _; rw [List.append_nil]⟩
  | b :: bs, st, d, acts, hst, he, h1 => by
    obtain ⟨c, e1⟩ := dialE_cons (e := dgE b) (es := bs.map dgE) he
    have e1' : dialE l ((b :: bs).map dgE) st d acts = _ := e1
    rw [e1'] at he h1 ⊢
    rcases hst with rfl | hst
    · obtain ⟨hb, hs⟩ := step_dig c
      have hs' : stepI l 1 d (dgE b).f0 (dgE b).f1 (dgE b).f2 = _ := hs
      rw [hs'] at he h1 ⊢
      obtain ⟨g0, g1⟩ := badE_dig hb
      by_cases cn : (anaI l (digD d (dgE b).f2) false).1 = 1
      · have e2 : digI l d (dgE b).f2 = (1, digD d (dgE b).f2, sil d ++ [⟨9, 0, ⟨#[]⟩, 10⟩]) := _root_.if_pos cn
        rw [e2] at he h1 ⊢
        obtain ⟨_, h3⟩ := dialE_collect l bs 1 (digD d (dgE b).f2) _ (.inl rfl) he h1
        refine ⟨rfl, h3.trans ?_⟩
        have hfe : (dgE b).f2 = ((b.toNat : Nat) : Int) := rfl
        rw [hfe] at g0 g1 ⊢
        rw [digD_list g0 g1, List.append_assoc]
        rfl
      · have e2 : digI l d (dgE b).f2 = decP l (digD d (dgE b).f2) (anaI l (digD d (dgE b).f2) false).1 (anaI l (digD d (dgE b).f2) false).2.1 (sil d ++ [actK 10]) := _root_.if_neg cn
        rw [e2] at he h1 ⊢
        obtain ⟨h2, _⟩ := decP_st l (digD d (dgE b).f2) (anaI l (digD d (dgE b).f2) false).1 (anaI l (digD d (dgE b).f2) false).2.1 (sil d ++ [actK 10])
        obtain ⟨h4, _⟩ := dialE_collect l bs _ _ _ (.inr h2.symm) he h1
        rcases h2 with h2 | h2 <;> exact absurd (h2.symm.trans h4) (by decide)
    · have hs := step_ign (l := l) (d := d) (ec := 0) (ed := (dgE b).f2) hst c
      have hs' : stepI l st d (dgE b).f0 (dgE b).f1 (dgE b).f2 = _ := hs
      rw [hs'] at he h1 ⊢
      obtain ⟨h4, _⟩ := dialE_collect l bs st d _ (.inr hst) he h1
      rcases hst with h2 | h2 <;> exact absurd (h2.symm.trans h4) (by decide)
theorem evL_is (s : ByteArray) : evL s = ⟨1, 0, 0⟩ :: s.data.toList.map dgE := rfl
set_option maxRecDepth 100000 in
theorem dial_collect {l : Rl} {s : ByteArray} (he : (dialI l s).2.2.2 = 0) (h1 : (dialI l s).1 = 1) : (dialI l s).2.1 = s := by
  unfold dialI at he h1 ⊢
  rw [evL_is] at he h1 ⊢
  obtain ⟨c, e1⟩ := dialE_cons he
  rw [e1] at he h1 ⊢
  obtain ⟨_, _, f, ht, hs⟩ := step_zero' c
  obtain rfl : 66 = f := Option.some.inj ht
  have hs' : stepI l 0 ⟨#[]⟩ 1 0 0 = (1, ⟨#[]⟩, [actK 1, ⟨9, 0, ⟨#[]⟩, 10⟩], 0) := hs
  have e2 : stepI l 0 ⟨#[]⟩ (⟨1, 0, 0⟩ : S47).f0 (⟨1, 0, 0⟩ : S47).f1 (⟨1, 0, 0⟩ : S47).f2 = _ := hs'
  rw [e2] at he h1 ⊢
  obtain ⟨_, h3⟩ := dialE_collect l s.data.toList 1 ⟨#[]⟩ _ (.inl rfl) he h1
  have h4 : (dialE l (s.data.toList.map dgE) 1 ⟨#[]⟩ ([] ++ [actK 1, ⟨9, 0, ⟨#[]⟩, 10⟩])).2.1.data.toList = s.data.toList := h3.trans (List.nil_append _)
  exact ByteArray.ext (Array.toList_inj.1 h4)

theorem rd_act0 (a : S62) (l : Al) : rd_T62 (a :: l) 0 = a := rfl
theorem time_pure (l : Rl) (s : ByteArray) : ∃ k, crossbarlaw16_OriginTimeoutDecides.f k l s = some true := by
  refine Ev.rounds (g := fun k => crossbarlaw16_OriginTimeoutDecides.f k l s) ?_
  unfold crossbarlaw16_OriginTimeoutDecides.f
  refine Ev.bind (a := true) (Ev.done rfl) ?_
  refine Ev.if_pos rfl ?_
  obtain ⟨b, hb, hs⟩ := Few_ev l s
  have hb' : Ev (fun k => crossbarref16_Few.f k l s) b := by
    unfold crossbarref16_Few.f
    exact Ev.bind hb (Ev.now _)
  refine Ev.bind hb' ?_
  cases b with
  | false => exact Ev.if_neg (by decide) (Ev.now _)
  | true =>
    obtain ⟨h80, h60⟩ := hs rfl
    refine Ev.if_pos rfl ?_
    refine Ev.bind (Dial_ev l s (by omega)) ?_
    have skip : ∀ st d, Ev (fun k => crossbarlaw16_OriginTimeoutDecides.j0 k l s true st d) true := by
      intro st d
      refine Ev.step (fun k => crossbarlaw16_OriginTimeoutDecides.j0.eq_2 _ _ _ _ _ k) ?_
      exact Ev.if_pos rfl (Ev.now _)
    by_cases he : (dialI l s).2.2.2 = 0
    rotate_left
    · exact Ev.if_neg he (skip _ _)
    refine Ev.if_pos he ?_
    by_cases h1 : (dialI l s).1 = 1
    rotate_left
    · rw [bne_iff_ne.2 h1]
      exact skip _ _
    have hv := dial_valid l s he
    rw [h1, dial_collect he h1] at hv
    obtain ⟨hc, _, _, hn, _⟩ := chkO_range hv
    obtain ⟨_, hd, _⟩ := ana_err (hn rfl).2.1
    rw [h1, dial_collect he h1]
    refine Ev.step (fun k => crossbarlaw16_OriginTimeoutDecides.j0.eq_2 _ _ _ _ _ k) ?_
    refine Ev.if_neg (by decide) ?_
    refine Ev.bind (Step_ev l 1 s 4 0 0 (by omega)) ?_
    refine Ev.bind (Analyze_evI l s true (by omega)) ?_
    have hst : stepI l 1 s 4 0 0 = ((timI l s).1, (timI l s).2.1, (timI l s).2.2, 0) := (_root_.if_neg (fun hh => hh hv)).trans ((_root_.if_neg (by decide)).trans rfl)
    rw [hst]
    refine Ev.if_pos rfl ?_
    refine Ev.if_pos (by rw [anaI_ok hc hd]) ?_
    have key : ∀ (st' : Int) (acts : Al), (st', (⟨#[]⟩ : ByteArray), acts) = timI l s → Ev (fun k => crossbarlaw16_OriginTimeoutDecides.j1 k s acts ((acts.length : Int) == 0) st' ⟨#[]⟩ (anaI l s true).1 (anaI l s true).2.1) true := by
      intro st' acts ho
      have hne : ((⟨#[]⟩ : ByteArray).toList == ([] : List UInt8)) = true := by kernel_rfl
      have tone : ∀ ca : Int, ((ca == 102) == (s.toList == ([] : List UInt8))) = true → Ev (fun k => if ((5 : Int) == 5 && ((⟨#[]⟩ : ByteArray).toList == ([] : List UInt8))) = true then (if ((([⟨3, ca, ⟨#[]⟩, 0⟩] : Al).length : Nat) : Int) = 1 then (if 0 < ((([⟨3, ca, ⟨#[]⟩, 0⟩] : Al).length : Nat) : Int) then (if ((rd_T62 [⟨3, ca, ⟨#[]⟩, 0⟩] 0).f0) = 3 then (some ((((rd_T62 [⟨3, ca, ⟨#[]⟩, 0⟩] 0).f1) == 102) == (s.toList == ([] : List UInt8)))) else (some false)) else (none)) else (some false)) else (some false)) true := by
        intro ca hca
        refine Ev.if_pos (by rw [hne]; rfl) ?_
        refine Ev.if_pos rfl ?_
        refine Ev.if_pos (by simp) ?_
        refine Ev.if_pos rfl ?_
        exact Ev.done hca
      by_cases hz : s.size = 0
      · rw [show timI l s = (5, ⟨#[]⟩, [⟨3, 102, ⟨#[]⟩, 0⟩]) from _root_.if_pos hz] at ho
        simp only [Prod.mk.injEq] at ho
        obtain ⟨rfl, _, rfl⟩ := ho
        have hnil : s.toList = ([] : List UInt8) := (nil_iff s).2 hz
        have t1 := tone 102 (by rw [hnil]; rfl)
        refine Ev.step (fun k => crossbarlaw16_OriginTimeoutDecides.j1.eq_2 _ _ _ _ _ _ _ k) ?_
        refine Ev.if_neg (by decide) ?_
        by_cases h2 : (anaI l s true).1 = 2
        · refine Ev.if_pos h2 ?_
          exact Ev.if_pos hnil t1
        · exact Ev.if_neg h2 t1
      · have hnn : ¬ s.toList = ([] : List UInt8) := fun hh => hz ((nil_iff s).1 hh)
        rw [show timI l s = decP l s (anaI l s true).1 (anaI l s true).2.1 [] from _root_.if_neg hz] at ho
        by_cases h2 : (anaI l s true).1 = 2
        · by_cases h3 : (rd_T35 l (anaI l s true).2.1).f3 = 3
          · rw [show decP l s (anaI l s true).1 (anaI l s true).2.1 [] = (5, ⟨#[]⟩, [⟨6, 0, s, 0⟩, ⟨3, 0, ⟨#[]⟩, 0⟩]) from (_root_.if_neg (fun hh => hh h2)).trans (_root_.if_pos h3)] at ho
            simp only [Prod.mk.injEq] at ho
            obtain ⟨rfl, _, rfl⟩ := ho
            refine Ev.step (fun k => crossbarlaw16_OriginTimeoutDecides.j1.eq_2 _ _ _ _ _ _ _ k) ?_
            refine Ev.if_neg (by simp) ?_
            refine Ev.if_pos h2 ?_
            refine Ev.if_neg hnn ?_
            refine Ev.if_pos (by simp; try omega) ?_
            refine Ev.if_pos rfl ?_
            refine Ev.if_neg (by decide) ?_
            refine Ev.if_pos rfl ?_
            exact Ev.done rfl
          · rw [show decP l s (anaI l s true).1 (anaI l s true).2.1 [] = (2, ⟨#[]⟩, [⟨5, 0, s, (anaI l s true).2.1⟩]) from (_root_.if_neg (fun hh => hh h2)).trans (_root_.if_neg h3)] at ho
            simp only [Prod.mk.injEq] at ho
            obtain ⟨rfl, _, rfl⟩ := ho
            refine Ev.step (fun k => crossbarlaw16_OriginTimeoutDecides.j1.eq_2 _ _ _ _ _ _ _ k) ?_
            refine Ev.if_neg (by simp) ?_
            refine Ev.if_pos h2 ?_
            refine Ev.if_neg hnn ?_
            refine Ev.if_pos (by simp) ?_
            refine Ev.if_pos rfl ?_
            refine Ev.if_pos rfl ?_
            refine Ev.if_pos rfl ?_
            exact Ev.if_pos rfl (Ev.now _)
        · rw [show decP l s (anaI l s true).1 (anaI l s true).2.1 [] = (5, ⟨#[]⟩, [⟨3, 28, ⟨#[]⟩, 0⟩]) from _root_.if_pos h2] at ho
          simp only [Prod.mk.injEq] at ho
          obtain ⟨rfl, _, rfl⟩ := ho
          have t1 := tone 28 (by rw [beq_eq_false_iff_ne.2 hnn]; rfl)
          refine Ev.step (fun k => crossbarlaw16_OriginTimeoutDecides.j1.eq_2 _ _ _ _ _ _ _ k) ?_
          refine Ev.if_neg (by simp) ?_
          exact Ev.if_neg h2 t1
    have h21 : (timI l s).2.1 = ⟨#[]⟩ := by
      by_cases hz : s.size = 0
      · rw [show timI l s = (5, ⟨#[]⟩, [⟨3, 102, ⟨#[]⟩, 0⟩]) from _root_.if_pos hz]
      · rw [show timI l s = decP l s (anaI l s true).1 (anaI l s true).2.1 [] from _root_.if_neg hz]
        exact (decP_st _ _ _ _ _).2
    rw [h21]
    exact key _ _ (by rw [← h21])

end Go.Proofs.YthknfclhkmehgaaDoor.Fn
