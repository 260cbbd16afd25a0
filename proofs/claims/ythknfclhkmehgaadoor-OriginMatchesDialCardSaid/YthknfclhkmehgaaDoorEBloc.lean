/-
  dialplan.plan's method bloc: the walk.
-/
import Derived.Test.YthknfclhkmehgaaDoorEPlan
import Derived.Deep.RegionHeld3
namespace Go.Proofs.YthknfclhkmehgaaDoor.Fn
open Go.RowKit Go.Maps Go.Proofs.YthknfclhkmehgaaDoorW.PrintWords Go.Proofs.YthknfclhkmehgaaDoorW.PrintLast Go.Proofs.YthknfclhkmehgaaDoorW.PrintMore
set_option linter.unusedVariables false
set_option linter.unusedSimpArgs false

set_option maxHeartbeats 4000000 in
set_option maxRecDepth 100000 in
theorem Bloc_in (k : Nat) (g : Nat) (A0 : Option Addr) (c0 : Nat) (l0 : Rl) (t : List S77) (s : ByteArray) (w : World) (hr0 : Kd.C k35 w A0 l0.length l0) (hP : PlanAt w g A0 l0.length c0 t) (v n : Int) (ok : Bool) (hL : trie_Longest.f k t s = some (v, n, ok))
    (hv0 : 0 ≤ v) (hv1 : v ≤ 1099511627776) (st : Int) (hst : ok = false ∧ st = 3 ∨ (ok = true ∧ 1 ≤ v ∧ v ≤ l0.length) ∧ st = stB (rd_T35 l0 (v - 1)) s.size) :
    Calls Tryd.prog 39 #[.pointer (some ⟨g, 0, none⟩), .string s] w fun e w' => e = .returned (.agg #[.int .i64 st, .int .i64 (v - 1)]) ∧ Below w.heap.size w w' := by
  have hu61 := Tryd.underlying35
  have hu24 := Tryd.underlying32
  have hu101 := Tryd.underlying106
  have hu55 := Tryd.underlying26
  have hvw : wrap64 (v - 1) = v - 1 := w64c (by omega) (by omega)
  obtain ⟨At, ct, hpl, hC, hlt⟩ := hP
  replace hpl := Aside0.mk hpl
  replace hC := Aside0.mk hC
  replace hlt := Aside0.mk hlt
  have HR0 := Aside0.mk hr0
  replace hL := Aside0.mk hL
  replace hvw := Aside0.mk hvw
  replace hv0 := Aside0.mk hv0
  replace hv1 := Aside0.mk hv1
  replace hst := Aside0.mk hst
  clear hr0
  go_enter Tryd.func39, Tryd.ntmps39
  go_upto_region 1 with (fail)
  obtain ⟨W0, hW0⟩ : ∃ W0, w.alloc (.cells #[.int .i64 0, .int .i64 0] 26) = W0 := ⟨_, rfl⟩
  rw [hW0]
  have hb0 : Below w.heap.size w W0 := by rw [← hW0]; exact below_alloc (Below.refl _ _) _
  have hr4 : W0.heap[w.heap.size]? = some (.cells #[.int .i64 0, .int .i64 0] 26 (0, 0)) := by rw [← hW0]; exact blk_new _ _
  have hpl0 := Aside0.mk (blk_below hpl.out hb0)
  have hq1 : W0.cell? ⟨g, 1, none⟩ = some (.slice At t.length ct) := (blk_cell hpl0.out 1).trans rfl
  clear hW0
  replace hb0 := Aside0.mk hb0
  replace hr4 := Aside0.mk hr4
  go_upto_region 2 with (first | (go_at_call 19; refine (trie_Longest.calls k At ct t s v n ok _ (Kd.C_below hC.out hb0.out) hlt.out hL.out).mono ?_; rintro e W1 ⟨rfl, hB1⟩; replace hB1 := Aside0.mk hB1))
  have hb1 := Aside0.mk (below_step hb0.out hB1.out)
  have hr41 := Aside0.mk (blk_below hr4.out hB1.out)
  clear hq1 hpl0 hr4 hB1 hb0
  go_upto_region 3 with (fail)
  obtain ⟨ru, hru⟩ : ∃ ru, wrap64 (v - 1) = ru := ⟨_, rfl⟩
  rw [hru]
  obtain ⟨W2, hW2⟩ : ∃ W2, W1.alloc (.cells #[.int .i64 3, .int .i64 ru] 26) = W2 := ⟨_, rfl⟩
  rw [hW2]
  have hbb2 : Below W1.heap.size W1 W2 := by rw [← hW2]; exact below_alloc (Below.refl _ _) _
  have hr82 : W2.heap[W1.heap.size]? = some (.cells #[.int .i64 3, .int .i64 ru] 26 (0, 0)) := by rw [← hW2]; exact blk_new _ _
  have hr42 := blk_below hr41.out hbb2
  have hb2 := below_step hb1.out hbb2
  have hne : w.heap.size ≠ W1.heap.size := Nat.ne_of_lt (blk_lt hr41.out)
  have hru' : ru = v - 1 := by rw [← hru]; exact hvw.out
  have hpl2 := blk_below hpl.out hb2
  have hq2 : W2.cell? ⟨g, 1, none⟩ = some (.slice At t.length ct) := (blk_cell hpl2 1).trans rfl
  obtain ⟨b8, hb8⟩ : ∃ b8, b8 = W1.heap.size := ⟨_, rfl⟩
  rw [← hb8] at hr82 hne ⊢
  have hb8lt := Aside0.mk (show w.heap.size < b8 by rw [hb8]; exact blk_lt hr41.out)
  clear hW2 hbb2 hru hvw hr41 hb1 hb8
  replace hr82 := Aside0.mk hr82
  replace hr42 := Aside0.mk hr42
  replace hb2 := Aside0.mk hb2
  replace hpl2 := Aside0.mk hpl2
  replace hru' := Aside0.mk hru'
  replace hne := Aside0.mk hne
  obtain ⟨W3, hW23⟩ : ∃ W3, W3 = W2 := ⟨_, rfl⟩
  rw [← hW23]
  have hb3 : Below w.heap.size w W3 := by rw [hW23]; exact hb2.out
  have hr83 : W3.heap[b8]? = some (.cells #[.int .i64 3, .int .i64 ru] 26 (0, 0)) := by rw [hW23]; exact hr82.out
  have hr43 : W3.heap[w.heap.size]? = some (.cells #[.int .i64 0, .int .i64 0] 26 (0, 0)) := by rw [hW23]; exact hr42.out
  have hpl3 : W3.heap[g]? = some (.cells #[.slice A0 l0.length c0, .slice At t.length ct] 106 (0, 0)) := by rw [hW23]; exact hpl2.out
  have HR3 := Kd.C_below HR0.out hb3
  clear hW23 hr82 hr42 hb2 hpl2 hq2 hpl hL hC hlt
  have e80 : W3.cell? ⟨b8, 0, none⟩ = some (.int .i64 3) := (blk_cell hr83 0).trans rfl
  have e81 : W3.cell? ⟨b8, 1, none⟩ = some (.int .i64 ru) := (blk_cell hr83 1).trans rfl
  have f80 : W3.frozen? ⟨b8, 0, none⟩ = false := blk_frozen hr83 0
  have e40 : W3.cell? ⟨w.heap.size, 0, none⟩ = some (.int .i64 0) := (blk_cell hr43 0).trans rfl
  have e41 : W3.cell? ⟨w.heap.size, 1, none⟩ = some (.int .i64 0) := (blk_cell hr43 1).trans rfl
  have f40 : W3.frozen? ⟨w.heap.size, 0, none⟩ = false := blk_frozen hr43 0
  have f41 : W3.frozen? ⟨w.heap.size, 1, none⟩ = false := blk_frozen hr43 1
  have eg0 : W3.cell? ⟨g, 0, none⟩ = some (.slice A0 l0.length c0) := (blk_cell hpl3 0).trans rfl
  replace hr83 := Aside0.mk hr83
  replace hr43 := Aside0.mk hr43
  replace hb3 := Aside0.mk hb3
  replace hpl3 := Aside0.mk hpl3
  replace HR3 := Aside0.mk HR3
  have hne1 := hne.out
  have hne2 : b8 ≠ w.heap.size := fun e => hne1 e.symm
  have hfin : ∀ (W : World) (a : Act) (x : Int), Below w.heap.size w W → W.cell? ⟨w.heap.size, 0, none⟩ = some (.int .i64 x) → W.cell? ⟨w.heap.size, 1, none⟩ = some (.int .i64 ru) → a.tmps[4]? = some (.pointer (some ⟨w.heap.size, 0, none⟩)) → a.defers = [] →
      bodyPost Tryd.prog Tryd.f39 (fun e w' => e = .returned (.agg #[.int .i64 x, .int .i64 (v - 1)]) ∧ Below w.heap.size w w') Exit.ret a W := by
    intro W a x hB hc0 hc1 h4 hd
    refine bodyPost_ret (v := .agg #[.int .i64 x, .int .i64 (v - 1)]) ?_ hd ⟨rfl, hB⟩
    obtain ⟨tmps, defers⟩ := a
    dsimp only at h4
    simp [results, Tryd.f39, go_sem, hc0, hc1, h4, hu55, hru'.out]
  replace hfin := Aside0.mk hfin
  have hset : ∀ (W : World) (x : Int), W.heap[w.heap.size]? = some (.cells #[.int .i64 0, .int .i64 0] 26 (0, 0)) → ((W.setCell ⟨w.heap.size, 0, none⟩ (.int .i64 x)).setCell ⟨w.heap.size, 1, none⟩ (.int .i64 ru)).cell? ⟨w.heap.size, 0, none⟩ = some (.int .i64 x) ∧ ((W.setCell ⟨w.heap.size, 0, none⟩ (.int .i64 x)).setCell ⟨w.heap.size, 1, none⟩ (.int .i64 ru)).cell? ⟨w.heap.size, 1, none⟩ = some (.int .i64 ru) := by
    intro W x h
    have h1 := blk_put (blk_put h 0 (.int .i64 x) rfl) 1 (.int .i64 ru) rfl
    exact ⟨(blk_cell h1 0).trans rfl, (blk_cell h1 1).trans rfl⟩
  replace hset := Aside0.mk hset
  have hfar : ∀ x, (W3.setCell ⟨b8, 0, none⟩ (.int .i64 x)).heap[w.heap.size]? = some (.cells #[.int .i64 0, .int .i64 0] 26 (0, 0)) := fun x => blk_far hr43.out hne1 _
  have hb8ge : w.heap.size ≤ b8 := by
    rcases Nat.lt_or_ge b8 w.heap.size with hlt | hge
    · exact absurd (hb8lt.out) (by omega)
    · exact hge
  rcases hst.out with ⟨rfl, rfl⟩ | ⟨⟨rfl, h1, h2⟩, h3⟩
  · clear hst
    go_wp2
    obtain ⟨c0, c1⟩ := hset.out W3 3 hr43.out
    exact hfin.out _ _ _ (below_set (below_set hb3.out (Nat.le_refl _)) (Nat.le_refl _)) c0 c1 rfl rfl
  · have hrw : ru = v - 1 := hru'.out
    have p0 : 0 ≤ ru := by omega
    have p1 : ru < (l0.length : Int) := by omega
    obtain ⟨ad, ead, hx0, hx1, hx2, hx3⟩ := at_T35 HR3.out ru p0 p1
    cases ead
    obtain ⟨⟨p, mi, mx, kd⟩, hrd⟩ : ∃ q, q = rd_T35 l0 ru := ⟨_, rfl⟩
    rw [← hrd] at hx0 hx1 hx2 hx3
    rw [← hrw, ← hrd] at h3
    simp only at hx0 hx1 hx2 hx3
    clear hrd hst h1 h2 hrw hru'
    replace h3 := Aside0.mk h3
    replace p0 := eq_true p0
    replace p1 := eq_true p1
    go_upto_region 5 with (fail)
    have hn1 : W3.heap.size ≠ g := World.new_ne W3 ⟨g, 0, none⟩ eg0
    have hn2 : W3.heap.size ≠ b8 := World.new_ne W3 ⟨b8, 1, none⟩ e81
    have hn3 : W3.heap.size ≠ (ad.add (ru.toNat * 4)).block := World.new_ne W3 _ hx0
    go_region_held3 (fun W => W.cell? ⟨g, 0, none⟩ = some (.slice (some ad) l0.length c0) ∧ W.cell? ⟨b8, 1, none⟩ = some (.int .i64 ru) ∧ W.cell? (ad.add (ru.toNat * 4)) = some (.string p) ∧ W.cell? ⟨(ad.add (ru.toNat * 4)).block, (ad.add (ru.toNat * 4)).off + 1, none⟩ = some (.int .i64 mi) ∧ W.cell? ⟨(ad.add (ru.toNat * 4)).block, (ad.add (ru.toNat * 4)).off + 2, none⟩ = some (.int .i64 mx) ∧ W.cell? ⟨(ad.add (ru.toNat * 4)).block, (ad.add (ru.toNat * 4)).off + 3, none⟩ = some (.int .i64 kd)) (go_keep) (fail)
    obtain ⟨W5, hW5⟩ : ∃ W5, (W3.alloc (.cells #[.string p, .int .i64 mi, .int .i64 mx, .int .i64 kd] 35)).drew = W5 := ⟨_, rfl⟩
    rw [hW5]
    have hbb5 : Below W3.heap.size W3 W5 := by rw [← hW5]; exact below_drew (below_alloc (Below.refl _ _) _)
    have hr95 : W5.heap[W3.heap.size]? = some (.cells #[.string p, .int .i64 mi, .int .i64 mx, .int .i64 kd] 35 (0, 0)) := by rw [← hW5]; exact blk_new _ _
    have hr85 := blk_below hr83.out hbb5
    have hr45 := blk_below hr43.out hbb5
    have hb5 := below_step hb3.out hbb5
    obtain ⟨b9, hb9⟩ : ∃ b9, b9 = W3.heap.size := ⟨_, rfl⟩
    rw [← hb9] at hr95 ⊢
    clear hW5 hbb5 hn1 hn2 hn3 hx0 hx1 hx2 hx3 e80 e81 f80 e40 e41 f40 f41 eg0 hb9 hr83 hr43 hb3 hpl3 HR3
    have q0 : W5.cell? ⟨b9, 0, none⟩ = some (.string p) := (blk_cell hr95 0).trans rfl
    have q1 : W5.cell? ⟨b9, 1, none⟩ = some (.int .i64 mi) := (blk_cell hr95 1).trans rfl
    have q2 : W5.cell? ⟨b9, 2, none⟩ = some (.int .i64 mx) := (blk_cell hr95 2).trans rfl
    have q3 : W5.cell? ⟨b9, 3, none⟩ = some (.int .i64 kd) := (blk_cell hr95 3).trans rfl
    have e80 : W5.cell? ⟨b8, 0, none⟩ = some (.int .i64 3) := (blk_cell hr85 0).trans rfl
    have e81 : W5.cell? ⟨b8, 1, none⟩ = some (.int .i64 ru) := (blk_cell hr85 1).trans rfl
    have f80 : W5.frozen? ⟨b8, 0, none⟩ = false := blk_frozen hr85 0
    have e40 : W5.cell? ⟨w.heap.size, 0, none⟩ = some (.int .i64 0) := (blk_cell hr45 0).trans rfl
    have e41 : W5.cell? ⟨w.heap.size, 1, none⟩ = some (.int .i64 0) := (blk_cell hr45 1).trans rfl
    have f40 : W5.frozen? ⟨w.heap.size, 0, none⟩ = false := blk_frozen hr45 0
    have f41 : W5.frozen? ⟨w.heap.size, 1, none⟩ = false := blk_frozen hr45 1
    have end3 : ∀ a : Act, a.tmps[4]? = some (.pointer (some ⟨w.heap.size, 0, none⟩)) → a.defers = [] → bodyPost Tryd.prog Tryd.f39 (fun e w' => e = .returned (.agg #[.int .i64 3, .int .i64 (v - 1)]) ∧ Below w.heap.size w w') Exit.ret a ((W5.setCell ⟨w.heap.size, 0, none⟩ (.int .i64 3)).setCell ⟨w.heap.size, 1, none⟩ (.int .i64 ru)) := fun a h4 hd => by
      obtain ⟨c0, c1⟩ := hset.out W5 3 hr45
      exact hfin.out _ _ _ (below_set (below_set hb5 (Nat.le_refl _)) (Nat.le_refl _)) c0 c1 h4 hd
    have end2 : ∀ a : Act, a.tmps[4]? = some (.pointer (some ⟨w.heap.size, 0, none⟩)) → a.defers = [] → bodyPost Tryd.prog Tryd.f39 (fun e w' => e = .returned (.agg #[.int .i64 2, .int .i64 (v - 1)]) ∧ Below w.heap.size w w') Exit.ret a (((W5.setCell ⟨b8, 0, none⟩ (.int .i64 2)).setCell ⟨w.heap.size, 0, none⟩ (.int .i64 2)).setCell ⟨w.heap.size, 1, none⟩ (.int .i64 ru)) := fun a h4 hd => by
      obtain ⟨c0, c1⟩ := hset.out _ 2 (show (W5.setCell ⟨b8, 0, none⟩ (.int .i64 2)).heap[w.heap.size]? = some (.cells #[.int .i64 0, .int .i64 0] 26 (0, 0)) from blk_far hr45 hne1 _)
      exact hfin.out _ _ _ (below_set (below_set (below_set hb5 hb8ge) (Nat.le_refl _)) (Nat.le_refl _)) c0 c1 h4 hd
    replace end3 := Aside0.mk end3
    replace end2 := Aside0.mk end2
    clear hr45 hr85 hr95 hb5 hfin hset hfar
    cases c1 : decide (kd = 1) with
    | true =>
      have hk := of_decide_eq_true c1
      subst hk
      cases cm : decide (mi ≤ (s.size : Int)) with
      | false =>
        have hm : ¬ mi ≤ (s.size : Int) := of_decide_eq_false cm
        obtain rfl : st = 3 := h3.out.trans (if_neg (fun hh => hm hh.2.1))
        clear hm
        go_wp2
        exact end3.out _ rfl rfl
      | true =>
        have hm : mi ≤ (s.size : Int) := of_decide_eq_true cm
        cases cx : decide ((s.size : Int) ≤ mx) with
        | false =>
          have hx : ¬ (s.size : Int) ≤ mx := of_decide_eq_false cx
          obtain rfl : st = 3 := h3.out.trans (if_neg (fun hh => hx hh.2.2))
          clear hm hx
          go_wp2
          exact end3.out _ rfl rfl
        | true =>
          have hx : (s.size : Int) ≤ mx := of_decide_eq_true cx
          obtain rfl : st = 2 := h3.out.trans (if_pos ⟨.inl rfl, hm, hx⟩)
          clear hm hx
          go_wp2
          exact end2.out _ rfl rfl
    | false =>
      have k1 : kd ≠ 1 := of_decide_eq_false c1
      have k1b : (kd == 1) = false := beq_eq_false_iff_ne.2 k1
      cases c2 : decide (kd = 2) with
      | true =>
        have hk := of_decide_eq_true c2
        subst hk
        cases cm : decide (mi ≤ (s.size : Int)) with
        | false =>
          have hm : ¬ mi ≤ (s.size : Int) := of_decide_eq_false cm
          obtain rfl : st = 3 := h3.out.trans (if_neg (fun hh => hm hh.2.1))
          clear hm
          go_wp2
          exact end3.out _ rfl rfl
        | true =>
          have hm : mi ≤ (s.size : Int) := of_decide_eq_true cm
          cases cx : decide ((s.size : Int) ≤ mx) with
          | false =>
            have hx : ¬ (s.size : Int) ≤ mx := of_decide_eq_false cx
            obtain rfl : st = 3 := h3.out.trans (if_neg (fun hh => hx hh.2.2))
            clear hm hx
            go_wp2
            exact end3.out _ rfl rfl
          | true =>
            have hx : (s.size : Int) ≤ mx := of_decide_eq_true cx
            obtain rfl : st = 2 := h3.out.trans (if_pos ⟨.inr (.inl rfl), hm, hx⟩)
            clear hm hx
            go_wp2
            exact end2.out _ rfl rfl
      | false =>
        have k2 : kd ≠ 2 := of_decide_eq_false c2
        have k2b : (kd == 2) = false := beq_eq_false_iff_ne.2 k2
        cases c3 : decide (kd = 3) with
        | true =>
          have hk := of_decide_eq_true c3
          subst hk
          cases cm : decide (mi ≤ (s.size : Int)) with
          | false =>
            have hm : ¬ mi ≤ (s.size : Int) := of_decide_eq_false cm
            obtain rfl : st = 3 := h3.out.trans (if_neg (fun hh => hm hh.2.1))
            clear hm
            go_wp2
            exact end3.out _ rfl rfl
          | true =>
            have hm : mi ≤ (s.size : Int) := of_decide_eq_true cm
            cases cx : decide ((s.size : Int) ≤ mx) with
            | false =>
              have hx : ¬ (s.size : Int) ≤ mx := of_decide_eq_false cx
              obtain rfl : st = 3 := h3.out.trans (if_neg (fun hh => hx hh.2.2))
              clear hm hx
              go_wp2
              exact end3.out _ rfl rfl
            | true =>
              have hx : (s.size : Int) ≤ mx := of_decide_eq_true cx
              obtain rfl : st = 2 := h3.out.trans (if_pos ⟨.inr (.inr rfl), hm, hx⟩)
              clear hm hx
              go_wp2
              exact end2.out _ rfl rfl
        | false =>
          have k3 : kd ≠ 3 := of_decide_eq_false c3
          have k3b : (kd == 3) = false := beq_eq_false_iff_ne.2 k3
          obtain rfl : st = 3 := h3.out.trans (if_neg (fun hh => by rcases hh.1 with h | h | h; exact k1 h; exact k2 h; exact k3 h))
          go_wp2
          exact end3.out _ rfl rfl

end Go.Proofs.YthknfclhkmehgaaDoor.Fn
