/-
  dialplan.Analyze: the walk.
-/
import Derived.Test.YthknfclhkmehgaaDoorEPlan
import Derived.Test.YthknfclhkmehgaaDoorEBloc
namespace Go.Proofs.YthknfclhkmehgaaDoor.Fn
open Go.RowKit Go.Maps Go.Proofs.YthknfclhkmehgaaDoorW.PrintWords Go.Proofs.YthknfclhkmehgaaDoorW.PrintLast Go.Proofs.YthknfclhkmehgaaDoorW.PrintMore
set_option linter.unusedVariables false
set_option linter.unusedSimpArgs false

theorem nil_flag {s : ByteArray} (h : (s.toList != ([] : List UInt8)) = true) : s.toList.isEmpty = false := by
  cases hl : s.toList with
  | nil => rw [hl] at h; exact absurd h (by decide)
  | cons a m => rfl
theorem cmpL.mono (k : Nat) : ∀ (l : Rl) (i : Int) (t : List S77), LeO (cmpL k l i t) (cmpL (k + 1) l i t)
  | [], _, _ => LeO.refl _
  | r :: rs, i, t => by
    unfold cmpL
    exact LeO.bind (trie_Put.mono _ _ _ k) (fun q => LeO.ite (cmpL.mono k rs _ _) (LeO.refl _))
theorem compile.mono (l : Rl) (k : Nat) : LeO (compile.f k l) (compile.f (k + 1) l) := LeO.ite (LeO.refl _) (cmpL.mono k l _ _)
theorem overlap.mono (t : List S77) (l : Rl) (s : ByteArray) (k : Nat) : LeO (overlap.f k t l s) (overlap.f (k + 1) t l s) :=
  LeO.bind (trie_Longest.mono _ _ k) (fun _ => LeO.bind (trie_Extends.mono _ _ k) (fun _ => LeO.refl _))

theorem bloc.mono (t : List S77) (l : Rl) (s : ByteArray) (k : Nat) : LeO (bloc.f k t l s) (bloc.f (k + 1) t l s) :=
  LeO.bind (trie_Longest.mono _ _ k) (fun _ => LeO.refl _)
noncomputable def dialplan_Analyze.f (k : Nat) (l : Rl) (s : ByteArray) (fin : Bool) : Option (Int × Int × Int) :=
  (compile.f k l).bind fun C => if C.2 ≠ 0 then some (0, 0, C.2) else (dialplan_numeric.f s).bind fun d => if d = false then some (0, 0, 60) else
    if fin = true then (bloc.f k C.1 l s).bind fun a => some (a.1, a.2, 0) else (overlap.f k C.1 l s).bind fun a => some (a.1, a.2, 0)
theorem dialplan_Analyze.mono : ∀ a0 a1 a2 k, LeO (dialplan_Analyze.f k a0 a1 a2) (dialplan_Analyze.f (k + 1) a0 a1 a2) := fun a0 a1 a2 k =>
  LeO.bind (compile.mono a0 k) (fun _ => LeO.ite (LeO.refl _) (LeO.bind (LeO.refl _) (fun _ => LeO.ite (LeO.refl _) (LeO.ite (LeO.bind (bloc.mono _ _ _ k) (fun _ => LeO.refl _)) (LeO.bind (overlap.mono _ _ _ k) (fun _ => LeO.refl _))))))

theorem overlap.calls (k : Nat) (g : Nat) (A0 : Option Addr) (c0 : Nat) (l0 : Rl) (t : List S77) (s : ByteArray) (r1 r2 : Int) (w : World) (hr0 : Kd.C k35 w A0 l0.length l0) (hP : PlanAt w g A0 l0.length c0 t) (h : overlap.f k t l0 s = some (r1, r2)) :
    Calls Tryd.prog 40 #[.pointer (some ⟨g, 0, none⟩), .string s] w fun e w' => e = .returned (.agg #[.int .i64 r1, .int .i64 r2]) ∧ Below w.heap.size w w' := by
  unfold overlap.f at h
  obtain ⟨⟨v, n, ok⟩, hL, h⟩ := Option.bind_eq_some_iff.1 h
  obtain ⟨ext, hE, h⟩ := Option.bind_eq_some_iff.1 h
  simp only at h
  split at h
  case isFalse => cases h
  case isTrue hv =>
  split at h
  · rename_i h1
    simp only [Option.some.injEq, Prod.mk.injEq] at h
    obtain ⟨rfl, rfl⟩ := h
    exact Over_in k g A0 c0 l0 t s w hr0 hP v n ok ext hL hE hv.1 hv.2 1 (.inl ⟨h1, rfl⟩)
  · rename_i h1
    have he : ext = false := by
      cases ext with
      | false => rfl
      | true => exact absurd (.inl rfl) h1
    split at h
    · rename_i h2
      simp only [Option.some.injEq, Prod.mk.injEq] at h
      obtain ⟨rfl, rfl⟩ := h
      exact Over_in k g A0 c0 l0 t s w hr0 hP v n ok ext hL hE hv.1 hv.2 3 (.inr (.inl ⟨⟨he, h2, fun h0 => h1 (.inr ⟨h2, h0⟩)⟩, rfl⟩))
    · rename_i h2
      split at h
      · rename_i h3
        simp only [Option.some.injEq, Prod.mk.injEq] at h
        obtain ⟨rfl, rfl⟩ := h
        exact Over_in k g A0 c0 l0 t s w hr0 hP v n ok ext hL hE hv.1 hv.2 _ (.inr (.inr ⟨⟨he, by simpa using h2, h3⟩, rfl⟩))
      · cases h

theorem bloc.calls (k : Nat) (g : Nat) (A0 : Option Addr) (c0 : Nat) (l0 : Rl) (t : List S77) (s : ByteArray) (r1 r2 : Int) (w : World) (hr0 : Kd.C k35 w A0 l0.length l0) (hP : PlanAt w g A0 l0.length c0 t) (h : bloc.f k t l0 s = some (r1, r2)) :
    Calls Tryd.prog 39 #[.pointer (some ⟨g, 0, none⟩), .string s] w fun e w' => e = .returned (.agg #[.int .i64 r1, .int .i64 r2]) ∧ Below w.heap.size w w' := by
  unfold bloc.f at h
  obtain ⟨⟨v, n, ok⟩, hL, h⟩ := Option.bind_eq_some_iff.1 h
  simp only at h
  split at h
  case isFalse => cases h
  case isTrue hv =>
  split at h
  · rename_i h2
    simp only [Option.some.injEq, Prod.mk.injEq] at h
    obtain ⟨rfl, rfl⟩ := h
    exact Bloc_in k g A0 c0 l0 t s w hr0 hP v n ok hL hv.1 hv.2 3 (.inl ⟨h2, rfl⟩)
  · rename_i h2
    split at h
    · rename_i h3
      simp only [Option.some.injEq, Prod.mk.injEq] at h
      obtain ⟨rfl, rfl⟩ := h
      exact Bloc_in k g A0 c0 l0 t s w hr0 hP v n ok hL hv.1 hv.2 _ (.inr ⟨⟨by simpa using h2, h3⟩, rfl⟩)
    · cases h

set_option maxHeartbeats 4000000 in
set_option maxRecDepth 100000 in
theorem dialplan_Analyze.calls (k : Nat) (A0 : Option Addr) (c0 : Nat) (l0 : Rl) (a1 : ByteArray) (a2 : Bool) (r1 r2 r3 : Int) (w : World) (hr0 : Kd.C k35 w A0 l0.length l0) (hc0 : l0.length ≤ c0) (h : dialplan_Analyze.f k l0 a1 a2 = some (r1, r2, r3)) :
    Calls Tryd.prog 16 #[.slice A0 l0.length c0, .string a1, .bool a2] w fun e w' => e = .returned (.tuple #[.agg #[.int .i64 r1, .int .i64 r2], .int .i64 r3]) ∧ Below w.heap.size w w' := by
  have hu55 := Tryd.underlying26
  unfold dialplan_Analyze.f at h
  obtain ⟨⟨t, ce⟩, hC, h⟩ := Option.bind_eq_some_iff.1 h
  simp only at h
  have HR0 := Aside0.mk hr0
  have HC0 := Aside0.mk hc0
  replace hC := Aside0.mk hC
  clear hr0 hc0
  have hfin : ∀ (W : World) (a : Act) (x y z : Int), Below w.heap.size w W → W.cell? ⟨w.heap.size, 0, none⟩ = some (.int .i64 x) → W.cell? ⟨w.heap.size, 1, none⟩ = some (.int .i64 y) → a.tmps[6]? = some (.pointer (some ⟨w.heap.size, 0, none⟩)) → a.tmps[7]? = some (.int .i64 z) → a.defers = [] →
      bodyPost Tryd.prog Tryd.f16 (fun e w' => e = .returned (.tuple #[.agg #[.int .i64 x, .int .i64 y], .int .i64 z]) ∧ Below w.heap.size w w') Exit.ret a W := by
    intro W a x y z hB hc0 hc1 h6 h7 hd
    refine bodyPost_ret (v := .tuple #[.agg #[.int .i64 x, .int .i64 y], .int .i64 z]) ?_ hd ⟨rfl, hB⟩
    obtain ⟨tmps, defers⟩ := a
    dsimp only at h6 h7
    simp [results, Tryd.f16, go_sem, hc0, hc1, h6, h7, hu55]
  have hset : ∀ (W : World) (x y : Int), W.heap[w.heap.size]? = some (.cells #[.int .i64 0, .int .i64 0] 26 (0, 0)) → ((W.setCell ⟨w.heap.size, 0, none⟩ (.int .i64 x)).setCell ⟨w.heap.size, 1, none⟩ (.int .i64 y)).cell? ⟨w.heap.size, 0, none⟩ = some (.int .i64 x) ∧ ((W.setCell ⟨w.heap.size, 0, none⟩ (.int .i64 x)).setCell ⟨w.heap.size, 1, none⟩ (.int .i64 y)).cell? ⟨w.heap.size, 1, none⟩ = some (.int .i64 y) := by
    intro W x y h
    have h1 := blk_put (blk_put h 0 (.int .i64 x) rfl) 1 (.int .i64 y) rfl
    exact ⟨(blk_cell h1 0).trans rfl, (blk_cell h1 1).trans rfl⟩
  have hend : ∀ (W : World) (a : Act) (x y z : Int), W.heap[w.heap.size]? = some (.cells #[.int .i64 0, .int .i64 0] 26 (0, 0)) → Below w.heap.size w W → a.tmps[6]? = some (.pointer (some ⟨w.heap.size, 0, none⟩)) → a.tmps[7]? = some (.int .i64 z) → a.defers = [] →
      bodyPost Tryd.prog Tryd.f16 (fun e w' => e = .returned (.tuple #[.agg #[.int .i64 x, .int .i64 y], .int .i64 z]) ∧ Below w.heap.size w w') Exit.ret a ((W.setCell ⟨w.heap.size, 0, none⟩ (.int .i64 x)).setCell ⟨w.heap.size, 1, none⟩ (.int .i64 y)) := by
    intro W a x y z h hB h6 h7 hd
    obtain ⟨c0, c1⟩ := hset W x y h
    exact hfin _ a x y z (below_set (below_set hB (Nat.le_refl _)) (Nat.le_refl _)) c0 c1 h6 h7 hd
  replace hend := Aside0.mk hend
  clear hfin hset
  go_enter Tryd.func16, Tryd.ntmps16
  go_upto_region 1 with (fail)
  obtain ⟨W0, hW0⟩ : ∃ W0, w.alloc (.cells #[.int .i64 0, .int .i64 0] 26) = W0 := ⟨_, rfl⟩
  rw [hW0]
  have hb0 : Below w.heap.size w W0 := by rw [← hW0]; exact below_alloc (Below.refl _ _) _
  have hr6 : W0.heap[w.heap.size]? = some (.cells #[.int .i64 0, .int .i64 0] 26 (0, 0)) := by rw [← hW0]; exact blk_new _ _
  clear hW0
  replace hb0 := Aside0.mk hb0
  replace hr6 := Aside0.mk hr6
  go_upto_region 2 with (first | (go_at_call 37; refine (Comp_in k A0 c0 l0 _ (Kd.C_below HR0.out hb0.out) HC0.out t ce hC.out).mono ?_; rintro e W1 ⟨pv, rfl, hB1, hpn, hpp⟩; replace hB1 := Aside0.mk hB1; replace hpn := Aside0.mk hpn; replace hpp := Aside0.mk hpp))
  have hb1 := below_step hb0.out hB1.out
  have hr61 := blk_below hr6.out hB1.out
  have e60 : W1.cell? ⟨w.heap.size, 0, none⟩ = some (.int .i64 0) := (blk_cell hr61 0).trans rfl
  have e61 : W1.cell? ⟨w.heap.size, 1, none⟩ = some (.int .i64 0) := (blk_cell hr61 1).trans rfl
  have f60 : W1.frozen? ⟨w.heap.size, 0, none⟩ = false := blk_frozen hr61 0
  have f61 : W1.frozen? ⟨w.heap.size, 1, none⟩ = false := blk_frozen hr61 1
  replace hb1 := Aside0.mk hb1
  replace hr61 := Aside0.mk hr61
  cases c1 : decide (ce = 0) with
  | false =>
    have c1' : ce ≠ 0 := of_decide_eq_false c1
    have c1b : (ce != 0) = true := bne_iff_ne.2 c1'
    have c1c : (ce == 0) = false := beq_eq_false_iff_ne.2 c1'
    rw [if_pos c1'] at h
    simp only [Option.some.injEq, Prod.mk.injEq] at h
    obtain ⟨rfl, rfl, rfl⟩ := h
    clear hpn hpp hC
    go_wp2
    exact hend.out _ _ _ _ _ hr61.out hb1.out rfl rfl rfl
  | true =>
    have c1' : ce = 0 := of_decide_eq_true c1
    subst c1'
    rw [if_neg (by decide)] at h
    obtain ⟨g, rfl, hge, hP⟩ := hpp.out rfl
    replace hP := Aside0.mk hP
    clear hpn hpp hC c1 hge
    obtain ⟨d, hd, h⟩ := Option.bind_eq_some_iff.1 h
    replace hd := Aside0.mk hd
    have hret : ∀ W2, Below W1.heap.size W1 W2 → W2.heap[w.heap.size]? = some (.cells #[.int .i64 0, .int .i64 0] 26 (0, 0)) ∧ Below w.heap.size w W2 ∧ W2.cell? ⟨w.heap.size, 0, none⟩ = some (.int .i64 0) ∧ W2.cell? ⟨w.heap.size, 1, none⟩ = some (.int .i64 0) ∧ W2.frozen? ⟨w.heap.size, 0, none⟩ = false ∧ W2.frozen? ⟨w.heap.size, 1, none⟩ = false := by
      intro W2 hb
      have h1 := blk_below hr61.out hb
      exact ⟨h1, below_step hb1.out hb, (blk_cell h1 0).trans rfl, (blk_cell h1 1).trans rfl, blk_frozen h1 0, blk_frozen h1 1⟩
    replace hret := Aside0.mk hret
    clear e60 e61 f60 f61
    cases d with
    | false =>
      rw [if_pos rfl] at h
      simp only [Option.some.injEq, Prod.mk.injEq] at h
      obtain ⟨rfl, rfl, rfl⟩ := h
      go_wp2_with (first | (go_at_call 38; refine (dialplan_numeric.calls a1 false _ hd.out).mono ?_; rintro e W2 ⟨rfl, hB2⟩; obtain ⟨q1, q2, q3, q4, q5, q6⟩ := hret.out W2 hB2; replace hB2 := Aside0.mk hB2; replace q1 := Aside0.mk q1; replace q2 := Aside0.mk q2))
      exact hend.out _ _ _ _ _ q1.out q2.out rfl rfl rfl
    | true =>
      rw [if_neg (by decide)] at h
      cases a2 with
      | true =>
        rw [if_pos rfl] at h
        obtain ⟨⟨x, y⟩, hO, h⟩ := Option.bind_eq_some_iff.1 h
        simp only [Option.some.injEq, Prod.mk.injEq] at h
        obtain ⟨rfl, rfl, rfl⟩ := h
        replace hO := Aside0.mk hO
        go_wp2_with (first | (go_at_call 38; refine (dialplan_numeric.calls a1 true _ hd.out).mono ?_; rintro e W2 ⟨rfl, hB2⟩; replace hB2 := Aside0.mk hB2) | (go_at_call 39; refine (bloc.calls k g A0 c0 l0 t a1 x y _ (Kd.C_below HR0.out (below_step hb1.out hB2.out)) (PlanAt_below hP.out hB2.out) hO.out).mono ?_; rintro e W3 ⟨rfl, hB3⟩; obtain ⟨q1, q2, q3, q4, q5, q6⟩ := hret.out W3 (below_step hB2.out hB3); replace hB3 := Aside0.mk hB3; replace q1 := Aside0.mk q1; replace q2 := Aside0.mk q2))
        exact hend.out _ _ _ _ _ q1.out q2.out rfl rfl rfl
      | false =>
        rw [if_neg (by decide)] at h
        obtain ⟨⟨x, y⟩, hO, h⟩ := Option.bind_eq_some_iff.1 h
        simp only [Option.some.injEq, Prod.mk.injEq] at h
        obtain ⟨rfl, rfl, rfl⟩ := h
        replace hO := Aside0.mk hO
        go_wp2_with (first | (go_at_call 38; refine (dialplan_numeric.calls a1 true _ hd.out).mono ?_; rintro e W2 ⟨rfl, hB2⟩; replace hB2 := Aside0.mk hB2) | (go_at_call 40; refine (overlap.calls k g A0 c0 l0 t a1 x y _ (Kd.C_below HR0.out (below_step hb1.out hB2.out)) (PlanAt_below hP.out hB2.out) hO.out).mono ?_; rintro e W3 ⟨rfl, hB3⟩; obtain ⟨q1, q2, q3, q4, q5, q6⟩ := hret.out W3 (below_step hB2.out hB3); replace hB3 := Aside0.mk hB3; replace q1 := Aside0.mk q1; replace q2 := Aside0.mk q2))
        exact hend.out _ _ _ _ _ q1.out q2.out rfl rfl rfl

end Go.Proofs.YthknfclhkmehgaaDoor.Fn
