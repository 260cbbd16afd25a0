/-
  dialplan.plan's methods overlap and bloc: the walks.
-/
import Derived.Test.YthknfclhkmehgaaDoorEComp
import Derived.Test.YthknfclhkmehgaaDoorEExt
import Derived.Test.YthknfclhkmehgaaDoorELong
import Derived.Deep.QuietTactic
import Derived.BigQuiet
namespace Go.Proofs.YthknfclhkmehgaaDoor.Fn
open Go.RowKit Go.Maps Go.Proofs.YthknfclhkmehgaaDoorW.PrintWords Go.Proofs.YthknfclhkmehgaaDoorW.PrintLast Go.Proofs.YthknfclhkmehgaaDoorW.PrintMore
set_option linter.unusedVariables false
set_option linter.unusedSimpArgs false

theorem toList_data' (b : ByteArray) : b.toList = b.data.toList := Lib.toList_data b
def stO (r : S35) (n : Int) : Int := if r.f3 = 4 then 3 else if n < r.f2 then 1 else if n = r.f2 then 2 else 3
def stB (r : S35) (n : Int) : Int := if (r.f3 = 1 ∨ r.f3 = 2 ∨ r.f3 = 3) ∧ r.f1 ≤ n ∧ n ≤ r.f2 then 2 else 3
noncomputable def overlap.f (k : Nat) (t : List S77) (l : Rl) (s : ByteArray) : Option (Int × Int) :=
  (trie_Longest.f k t s).bind fun L => (trie_Extends.f k t s).bind fun ext => if 0 ≤ L.1 ∧ L.1 ≤ 1099511627776 then
    (if ext = true ∨ (L.2.2 = false ∧ s.size = 0) then some (1, L.1 - 1) else if L.2.2 = false then some (3, L.1 - 1) else
      if 1 ≤ L.1 ∧ L.1 ≤ l.length then some (stO (rd_T35 l (L.1 - 1)) s.size, L.1 - 1) else none) else none
noncomputable def bloc.f (k : Nat) (t : List S77) (l : Rl) (s : ByteArray) : Option (Int × Int) :=
  (trie_Longest.f k t s).bind fun L => if 0 ≤ L.1 ∧ L.1 ≤ 1099511627776 then
    (if L.2.2 = false then some (3, L.1 - 1) else
      if 1 ≤ L.1 ∧ L.1 ≤ l.length then some (stB (rd_T35 l (L.1 - 1)) s.size, L.1 - 1) else none) else none

set_option maxHeartbeats 4000000 in
set_option maxRecDepth 100000 in
theorem Over_in (k : Nat) (g : Nat) (A0 : Option Addr) (c0 : Nat) (l0 : Rl) (t : List S77) (s : ByteArray) (w : World) (hr0 : Kd.C k35 w A0 l0.length l0) (hP : PlanAt w g A0 l0.length c0 t) (v n : Int) (ok ext : Bool) (hL : trie_Longest.f k t s = some (v, n, ok)) (hE : trie_Extends.f k t s = some ext)
    (hv0 : 0 ≤ v) (hv1 : v ≤ 1099511627776) (st : Int) (hst : (ext = true ∨ (ok = false ∧ s.size = 0)) ∧ st = 1 ∨ (ext = false ∧ ok = false ∧ s.size ≠ 0) ∧ st = 3 ∨ (ext = false ∧ ok = true ∧ 1 ≤ v ∧ v ≤ l0.length) ∧ st = stO (rd_T35 l0 (v - 1)) s.size) :
    Calls Tryd.prog 40 #[.pointer (some ⟨g, 0, none⟩), .string s] w fun e w' => e = .returned (.agg #[.int .i64 st, .int .i64 (v - 1)]) ∧ Below w.heap.size w w' := by
  have hu61 := Tryd.underlying35
  have hu24 := Tryd.underlying32
  have hu101 := Tryd.underlying106
  have hu55 := Tryd.underlying26
  have hvw : wrap64 (v - 1) = v - 1 := w64c (by omega) (by omega)
  obtain ⟨At, ct, hpl, hC, hlt⟩ := hP
  replace hpl := Aside0.mk hpl
  replace hC := Aside0.mk hC
  replace hlt := Aside0.mk hlt
  have HR0 := Aside0.mk hr0
  replace hL := Aside0.mk hL
  replace hE := Aside0.mk hE
  replace hvw := Aside0.mk hvw
  replace hv0 := Aside0.mk hv0
  replace hv1 := Aside0.mk hv1
  replace hst := Aside0.mk hst
  clear hr0
  go_enter Tryd.func40, Tryd.ntmps40
  go_upto_region 1 with (fail)
  obtain ⟨W0, hW0⟩ : ∃ W0, w.alloc (.cells #[.int .i64 0, .int .i64 0] 26) = W0 := ⟨_, rfl⟩
  rw [hW0]
  have hb0 : Below w.heap.size w W0 := by rw [← hW0]; exact below_alloc (Below.refl _ _) _
  have hr4 : W0.heap[w.heap.size]? = some (.cells #[.int .i64 0, .int .i64 0] 26 (0, 0)) := by rw [← hW0]; exact blk_new _ _
  have hpl0 := Aside0.mk (blk_below hpl.out hb0)
  have hq1 : W0.cell? ⟨g, 1, none⟩ = some (.slice At t.length ct) := (blk_cell hpl0.out 1).trans rfl
  clear hW0
  replace hb0 := Aside0.mk hb0
  replace hr4 := Aside0.mk hr4
  go_upto_region 2 with (first | (go_at_call 19; refine (trie_Longest.calls k At ct t s v n ok _ (Kd.C_below hC.out hb0.out) hlt.out hL.out).mono ?_; rintro e W1 ⟨rfl, hB1⟩; replace hB1 := Aside0.mk hB1))
  have hb1 := Aside0.mk (below_step hb0.out hB1.out)
  have hr41 := Aside0.mk (blk_below hr4.out hB1.out)
  clear hq1 hpl0 hr4 hB1 hb0
  go_upto_region 3 with (fail)
  obtain ⟨ru, hru⟩ : ∃ ru, wrap64 (v - 1) = ru := ⟨_, rfl⟩
  rw [hru]
  obtain ⟨W2, hW2⟩ : ∃ W2, W1.alloc (.cells #[.int .i64 3, .int .i64 ru] 26) = W2 := ⟨_, rfl⟩
  rw [hW2]
  have hbb2 : Below W1.heap.size W1 W2 := by rw [← hW2]; exact below_alloc (Below.refl _ _) _
  have hr82 : W2.heap[W1.heap.size]? = some (.cells #[.int .i64 3, .int .i64 ru] 26 (0, 0)) := by rw [← hW2]; exact blk_new _ _
  have hr42 := blk_below hr41.out hbb2
  have hb2 := below_step hb1.out hbb2
  have hne : w.heap.size ≠ W1.heap.size := Nat.ne_of_lt (blk_lt hr41.out)
  have hru' : ru = v - 1 := by rw [← hru]; exact hvw.out
  have hpl2 := blk_below hpl.out hb2
  have hq2 : W2.cell? ⟨g, 1, none⟩ = some (.slice At t.length ct) := (blk_cell hpl2 1).trans rfl
  obtain ⟨b8, hb8⟩ : ∃ b8, b8 = W1.heap.size := ⟨_, rfl⟩
  rw [← hb8] at hr82 hne ⊢
  have hb8lt := Aside0.mk (show w.heap.size < b8 by rw [hb8]; exact blk_lt hr41.out)
  clear hW2 hbb2 hru hvw hr41 hb1 hb8
  replace hr82 := Aside0.mk hr82
  replace hr42 := Aside0.mk hr42
  replace hb2 := Aside0.mk hb2
  replace hpl2 := Aside0.mk hpl2
  replace hru' := Aside0.mk hru'
  replace hne := Aside0.mk hne
  go_upto_region 4 with (first | (go_at_call 20; refine (trie_Extends.calls k At ct t s ext _ (Kd.C_below hC.out hb2.out) hlt.out hE.out).mono ?_; rintro e W3 ⟨rfl, hB3⟩; replace hB3 := Aside0.mk hB3))
  have hb3 := below_step hb2.out hB3.out
  have hr83 := blk_below hr82.out hB3.out
  have hr43 := blk_below hr42.out hB3.out
  have hpl3 := blk_below hpl2.out hB3.out
  have HR3 := Kd.C_below HR0.out hb3
  clear hr82 hr42 hb2 hpl2 hq2 hB3 hpl hE hL hC hlt
  have e80 : W3.cell? ⟨b8, 0, none⟩ = some (.int .i64 3) := (blk_cell hr83 0).trans rfl
  have e81 : W3.cell? ⟨b8, 1, none⟩ = some (.int .i64 ru) := (blk_cell hr83 1).trans rfl
  have f80 : W3.frozen? ⟨b8, 0, none⟩ = false := blk_frozen hr83 0
  have e40 : W3.cell? ⟨w.heap.size, 0, none⟩ = some (.int .i64 0) := (blk_cell hr43 0).trans rfl
  have e41 : W3.cell? ⟨w.heap.size, 1, none⟩ = some (.int .i64 0) := (blk_cell hr43 1).trans rfl
  have f40 : W3.frozen? ⟨w.heap.size, 0, none⟩ = false := blk_frozen hr43 0
  have f41 : W3.frozen? ⟨w.heap.size, 1, none⟩ = false := blk_frozen hr43 1
  have eg0 : W3.cell? ⟨g, 0, none⟩ = some (.slice A0 l0.length c0) := (blk_cell hpl3 0).trans rfl
  replace hr83 := Aside0.mk hr83
  replace hr43 := Aside0.mk hr43
  replace hb3 := Aside0.mk hb3
  replace hpl3 := Aside0.mk hpl3
  replace HR3 := Aside0.mk HR3
  have hne1 := hne.out
  have hne2 : b8 ≠ w.heap.size := fun e => hne1 e.symm
  have hfin : ∀ (W : World) (a : Act) (x : Int), Below w.heap.size w W → W.cell? ⟨w.heap.size, 0, none⟩ = some (.int .i64 x) → W.cell? ⟨w.heap.size, 1, none⟩ = some (.int .i64 ru) → a.tmps[4]? = some (.pointer (some ⟨w.heap.size, 0, none⟩)) → a.defers = [] →
      bodyPost Tryd.prog Tryd.f40 (fun e w' => e = .returned (.agg #[.int .i64 x, .int .i64 (v - 1)]) ∧ Below w.heap.size w w') Exit.ret a W := by
    intro W a x hB hc0 hc1 h4 hd
    refine bodyPost_ret (v := .agg #[.int .i64 x, .int .i64 (v - 1)]) ?_ hd ⟨rfl, hB⟩
    obtain ⟨tmps, defers⟩ := a
    dsimp only at h4
    simp [results, Tryd.f40, go_sem, hc0, hc1, h4, hu55, hru'.out]
  replace hfin := Aside0.mk hfin
  have hset : ∀ (W : World) (x : Int), W.heap[w.heap.size]? = some (.cells #[.int .i64 0, .int .i64 0] 26 (0, 0)) → ((W.setCell ⟨w.heap.size, 0, none⟩ (.int .i64 x)).setCell ⟨w.heap.size, 1, none⟩ (.int .i64 ru)).cell? ⟨w.heap.size, 0, none⟩ = some (.int .i64 x) ∧ ((W.setCell ⟨w.heap.size, 0, none⟩ (.int .i64 x)).setCell ⟨w.heap.size, 1, none⟩ (.int .i64 ru)).cell? ⟨w.heap.size, 1, none⟩ = some (.int .i64 ru) := by
    intro W x h
    have h1 := blk_put (blk_put h 0 (.int .i64 x) rfl) 1 (.int .i64 ru) rfl
    exact ⟨(blk_cell h1 0).trans rfl, (blk_cell h1 1).trans rfl⟩
  replace hset := Aside0.mk hset
  have hfar : ∀ x, (W3.setCell ⟨b8, 0, none⟩ (.int .i64 x)).heap[w.heap.size]? = some (.cells #[.int .i64 0, .int .i64 0] 26 (0, 0)) := fun x => blk_far hr43.out hne1 _
  have hb8ge : w.heap.size ≤ b8 := by
    rcases Nat.lt_or_ge b8 w.heap.size with hlt | hge
    · exact absurd (hb8lt.out) (by omega)
    · exact hge
  have endA : ∀ (a : Act) (x : Int), a.tmps[4]? = some (.pointer (some ⟨w.heap.size, 0, none⟩)) → a.defers = [] → bodyPost Tryd.prog Tryd.f40 (fun e w' => e = .returned (.agg #[.int .i64 x, .int .i64 (v - 1)]) ∧ Below w.heap.size w w') Exit.ret a (((W3.setCell ⟨b8, 0, none⟩ (.int .i64 x)).setCell ⟨w.heap.size, 0, none⟩ (.int .i64 x)).setCell ⟨w.heap.size, 1, none⟩ (.int .i64 ru)) := fun a x h4 hd => by
    obtain ⟨c0, c1⟩ := hset.out _ x (hfar x)
    exact hfin.out _ _ _ (below_set (below_set (below_set hb3.out hb8ge) (Nat.le_refl _)) (Nat.le_refl _)) c0 c1 h4 hd
  have endB : ∀ (a : Act) (m : Nat), a.tmps[4]? = some (.pointer (some ⟨w.heap.size, 0, none⟩)) → a.defers = [] → bodyPost Tryd.prog Tryd.f40 (fun e w' => e = .returned (.agg #[.int .i64 3, .int .i64 (v - 1)]) ∧ Below w.heap.size w w') Exit.ret a (((W3.drewN m).setCell ⟨w.heap.size, 0, none⟩ (.int .i64 3)).setCell ⟨w.heap.size, 1, none⟩ (.int .i64 ru)) := fun a m h4 hd => by
    obtain ⟨c0, c1⟩ := hset.out (W3.drewN m) 3 hr43.out
    exact hfin.out _ _ _ (below_set (below_set (pw_below_drewN hb3.out m) (Nat.le_refl _)) (Nat.le_refl _)) c0 c1 h4 hd
  have endC : ∀ (a : Act) (m : Nat) (x : Int), a.tmps[4]? = some (.pointer (some ⟨w.heap.size, 0, none⟩)) → a.defers = [] → bodyPost Tryd.prog Tryd.f40 (fun e w' => e = .returned (.agg #[.int .i64 x, .int .i64 (v - 1)]) ∧ Below w.heap.size w w') Exit.ret a ((((W3.drewN m).setCell ⟨b8, 0, none⟩ (.int .i64 x)).setCell ⟨w.heap.size, 0, none⟩ (.int .i64 x)).setCell ⟨w.heap.size, 1, none⟩ (.int .i64 ru)) := fun a m x h4 hd => by
    obtain ⟨c0, c1⟩ := hset.out _ x (show ((W3.drewN m).setCell ⟨b8, 0, none⟩ (.int .i64 x)).heap[w.heap.size]? = some (.cells #[.int .i64 0, .int .i64 0] 26 (0, 0)) from blk_far (w := W3.drewN m) hr43.out hne1 _)
    exact hfin.out _ _ _ (below_set (below_set (below_set (pw_below_drewN hb3.out m) hb8ge) (Nat.le_refl _)) (Nat.le_refl _)) c0 c1 h4 hd
  replace endA := Aside0.mk endA
  replace endB := Aside0.mk endB
  replace endC := Aside0.mk endC
  clear hfin hset hfar
  rcases hst.out with ⟨h1, rfl⟩ | ⟨⟨rfl, rfl, h0⟩, rfl⟩ | ⟨⟨rfl, rfl, h1, h2⟩, h3⟩
  · cases ext with
    | true =>
      clear hst h1
      go_wp2
      exact endA.out _ _ rfl rfl
    | false =>
      have h2 : ok = false ∧ s.size = 0 := h1.resolve_left (by decide)
      obtain ⟨rfl, h3⟩ := h2
      have hse : s = ⟨#[]⟩ := by
        obtain ⟨d⟩ := s
        have : d = #[] := Array.eq_empty_of_size_eq_zero h3
        rw [this]
      subst hse
      clear hst h1 h3
      go_wp2
      exact endA.out _ _ rfl rfl
  · have hse : s.toList.isEmpty = false := by
      rw [toList_data']
      cases hl : s.data.toList with
      | nil =>
        have := congrArg List.length hl
        rw [Array.length_toList] at this
        exact absurd this h0
      | cons a m => rfl
    clear hst h0
    go_wp2
    go_quiet (fail)
    go_wp2
    exact endB.out _ _ rfl rfl
  · have hrw : ru = v - 1 := hru'.out
    have p0 : 0 ≤ ru := by omega
    have p1 : ru < (l0.length : Int) := by omega
    obtain ⟨ad, ead, hx0, hx1, hx2, hx3⟩ := at_T35 HR3.out ru p0 p1
    cases ead
    obtain ⟨⟨p, mi, mx, kd⟩, hrd⟩ : ∃ q, q = rd_T35 l0 ru := ⟨_, rfl⟩
    rw [← hrd] at hx0 hx1 hx2 hx3
    rw [← hrw, ← hrd] at h3
    simp only at hx0 hx1 hx2 hx3
    clear hrd hst h1 h2 hrw hru'
    replace h3 := Aside0.mk h3
    replace p0 := eq_true p0
    replace p1 := eq_true p1
    cases ck : decide (kd = 4) with
    | true =>
      have hk : kd = 4 := of_decide_eq_true ck
      subst hk
      obtain rfl : st = 3 := h3.out.trans (if_pos rfl)
      go_wp2
      go_quiet (fail)
      go_wp2
      exact endB.out _ _ rfl rfl
    | false =>
      have hk : kd ≠ 4 := of_decide_eq_false ck
      have ckb : (kd == 4) = false := beq_eq_false_iff_ne.2 hk
      cases cl : decide ((s.size : Int) < mx) with
      | true =>
        obtain rfl : st = 1 := h3.out.trans ((if_neg hk).trans (if_pos (of_decide_eq_true cl)))
        go_wp2
        go_quiet (fail)
        go_wp2
        go_quiet (fail)
        go_wp2
        exact endC.out _ _ _ rfl rfl
      | false =>
        have hl : ¬ (s.size : Int) < mx := of_decide_eq_false cl
        cases ce : decide ((s.size : Int) = mx) with
        | true =>
          have he : (s.size : Int) = mx := of_decide_eq_true ce
          obtain rfl : st = 2 := h3.out.trans ((if_neg hk).trans ((if_neg hl).trans (if_pos he)))
          have ceb : ((s.size : Int) == mx) = true := beq_iff_eq.2 he
          clear he hl
          go_wp2
          go_quiet (fail)
          go_wp2
          go_quiet (fail)
          go_wp2
          go_quiet (fail)
          go_wp2
          exact endC.out _ _ _ rfl rfl
        | false =>
          have he : ¬ (s.size : Int) = mx := of_decide_eq_false ce
          obtain rfl : st = 3 := h3.out.trans ((if_neg hk).trans ((if_neg hl).trans (if_neg he)))
          have ceb : ((s.size : Int) == mx) = false := beq_eq_false_iff_ne.2 he
          clear he hl
          go_wp2
          go_quiet (fail)
          go_wp2
          go_quiet (fail)
          go_wp2
          go_quiet (fail)
          go_wp2
          exact endB.out _ _ rfl rfl

end Go.Proofs.YthknfclhkmehgaaDoor.Fn
