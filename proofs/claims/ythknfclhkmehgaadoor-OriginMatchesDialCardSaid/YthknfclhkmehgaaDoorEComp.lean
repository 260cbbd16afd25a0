/-
  dialplan.compile: the walk.
-/
import Derived.Test.YthknfclhkmehgaaDoorEChk
import Derived.Test.YthknfclhkmehgaaDoorEPut
import Derived.Test.YthknfclhkmehgaaDoorFn9
import Derived.Deep.RegionHeld3
namespace Go.Proofs.YthknfclhkmehgaaDoor.Fn
open Go.RowKit Go.Maps Go.Proofs.YthknfclhkmehgaaDoorW.PrintWords Go.Proofs.YthknfclhkmehgaaDoorW.PrintLast Go.Proofs.YthknfclhkmehgaaDoorW.PrintMore
set_option linter.unusedVariables false
set_option linter.unusedSimpArgs false

noncomputable def cmpL (k : Nat) : Rl → Int → List S77 → Option (List S77 × Int)
  | [], _, t => some (t, 0)
  | r :: rs, i, t => (trie_Put.f k t r.f0 (i + 1)).bind fun q => if q.2 = 0 then cmpL k rs (i + 1) q.1 else some ([], q.2)
noncomputable def compile.f (k : Nat) (l : Rl) : Option (List S77 × Int) := if chkR l ≠ 0 then some ([], chkR l) else cmpL k l 0 [z77]

/-- A compiled plan lies in block g. -/
def PlanAt (W : World) (g : Nat) (A0 : Option Addr) (n c0 : Nat) (t : List S77) : Prop := ∃ At ct, W.heap[g]? = some (.cells #[.slice A0 n c0, .slice At t.length ct] 106 (0, 0)) ∧ Kd.C k77 W At t.length t ∧ t.length ≤ ct
theorem PlanAt_below {W W' : World} {g : Nat} {A0 : Option Addr} {n c0 : Nat} {t : List S77} (h : PlanAt W g A0 n c0 t) (hb : Below W.heap.size W W') : PlanAt W' g A0 n c0 t := by
  obtain ⟨At, ct, h1, h2, h3⟩ := h
  exact ⟨At, ct, blk_below h1 hb, Kd.C_below h2 hb, h3⟩

set_option maxHeartbeats 4000000 in
set_option maxRecDepth 100000 in
theorem Comp_in (k : Nat) (A0 : Option Addr) (c0 : Nat) (l0 : Rl) (w : World) (hr0 : Kd.C k35 w A0 l0.length l0) (hc0 : l0.length ≤ c0) (res : List S77) (e0 : Int) (h : compile.f k l0 = some (res, e0)) :
    Calls Tryd.prog 37 #[.slice A0 l0.length c0] w fun e w' => ∃ v, e = .returned (.tuple #[v, .int .i64 e0]) ∧ Below w.heap.size w w' ∧ (e0 ≠ 0 → v = .pointer none) ∧ (e0 = 0 → ∃ g, v = .pointer (some ⟨g, 0, none⟩) ∧ w.heap.size ≤ g ∧ PlanAt w' g A0 l0.length c0 res) := by
  have hu61 := Tryd.underlying35
  have hu24 := Tryd.underlying32
  have hu101 := Tryd.underlying106
  have HR0 := Aside0.mk hr0
  have HC0 := Aside0.mk hc0
  clear hr0 hc0
  unfold compile.f at h
  obtain ⟨ce, hce⟩ : ∃ ce, chkR l0 = ce := ⟨_, rfl⟩
  rw [hce] at h
  have hchk : dialplan_Check.f l0 = some ce := congrArg some hce
  have h64 : ce = 0 → l0.length ≤ 64 := by
    intro h0
    rw [h0] at hce
    unfold chkR at hce
    split at hce
    · cases hce
    · omega
  clear hce
  cases c1 : decide (ce = 0) with
  | false =>
    have c1' : ce ≠ 0 := of_decide_eq_false c1
    rw [if_pos c1'] at h
    simp only [Option.some.injEq, Prod.mk.injEq] at h
    obtain ⟨rfl, rfl⟩ := h
    have c1b : (ce != 0) = true := bne_iff_ne.2 c1'
    have c1c : (ce == 0) = false := beq_eq_false_iff_ne.2 c1'
    clear h64
    replace hchk := Aside0.mk hchk
    go_enter Tryd.func37, Tryd.ntmps37
    go_wp2_with (first | (go_at_call 36; refine (dialplan_Check.calls _ _ l0 ce _ HR0.out HC0.out hchk.out).mono ?_; rintro e W1 ⟨rfl, hB1⟩; replace hB1 := Aside0.mk hB1))
    go_ret2
    exact ⟨_, rfl, hB1.out, fun _ => rfl, fun h0 => absurd h0 c1'⟩
  | true =>
    have c1' : ce = 0 := of_decide_eq_true c1
    subst c1'
    rw [if_neg (by decide)] at h
    obtain ⟨T0, hT0⟩ : ∃ T0, trie_New.f = some T0 ∧ T0 = [z77] := ⟨_, rfl, rfl⟩
    rw [← hT0.2] at h
    replace hT0 := Aside0.mk hT0.1
    have hl64 := Aside0.mk (h64 rfl)
    clear h64 c1
    replace hchk := Aside0.mk hchk
    replace h := Aside0.mk h
    go_enter Tryd.func37, Tryd.ntmps37
    go_upto_region 5 with (first | (go_at_call 36; refine (dialplan_Check.calls _ _ l0 0 _ HR0.out HC0.out hchk.out).mono ?_; rintro e W1 ⟨rfl, hB1⟩; have hR1 := Aside0.mk (Kd.C_below HR0.out hB1); replace hB1 := Aside0.mk hB1) | (go_at_call 17; refine (trie_New.calls T0 _ hT0.out).mono ?_; rintro e W2 ⟨v0, rfl, hR, hB2⟩; obtain ⟨At, ct, rfl, hlt, hCt⟩ := Kd.R_reads hR; clear hR; have hR2 := Aside0.mk (Kd.C_below hR1.out hB2); have hB2' := Aside0.mk (below_step hB1.out hB2); replace hCt := Aside0.mk hCt; replace hlt := Aside0.mk hlt; clear hR1 hB1 hB2))
    obtain ⟨W3, hW3⟩ : ∃ W3, W2.alloc (.cells #[.slice A0 l0.length c0, .slice At T0.length ct] 106) = W3 := ⟨_, rfl⟩
    rw [hW3]
    have hb3 : Below W2.heap.size W2 W3 := by rw [← hW3]; exact below_alloc (Below.refl _ _) _
    have hP3 : PlanAt W3 W2.heap.size A0 l0.length c0 T0 := ⟨At, ct, by rw [← hW3]; exact blk_new _ _, Kd.C_below hCt.out hb3, hlt.out⟩
    have hB3 := below_step hB2'.out hb3
    have hge : w.heap.size ≤ W2.heap.size := hB2'.out.size
    obtain ⟨g, hg⟩ : ∃ g, g = W2.heap.size := ⟨_, rfl⟩
    rw [← hg] at hP3 hge ⊢
    clear hb3 hW3 hB2' hCt hlt hg
    replace hP3 := Aside0.mk hP3
    replace hB3 := Aside0.mk hB3
    replace hge := Aside0.mk hge
    go_wp2
    go_loopg [21] l0.length (fun kq v21 w' => ∃ (x : Int) (t : List S77), v21 = .int .i64 x ∧ Aside0 (0 ≤ x ∧ x + kq = l0.length) ∧ Aside0 (cmpL k (l0.drop x.toNat) x t = some (res, e0)) ∧ Aside0 (PlanAt w' g A0 l0.length c0 t) ∧ Aside0 (Below w.heap.size w w'))
    case atStart => exact ⟨0, T0, rfl, ⟨by omega⟩, h, hP3, hB3⟩
    case round =>
      clear h hP3 hB3
      obtain ⟨x, t, rfl, hx, hcmp, hP, HB⟩ := hrel
      cases gk with
      | zero =>
        have c3b0 : decide (x < (l0.length : Int)) = false := decide_eq_false (by have := hx.out; omega)
        have hr0 := hcmp.out
        rw [List.drop_eq_nil_of_le (by have := hx.out; omega)] at hr0
        simp only [cmpL, Option.some.injEq, Prod.mk.injEq] at hr0
        obtain ⟨rfl, rfl⟩ := hr0
        go_wp2
        go_ret2
        exact ⟨_, rfl, HB.out, g, rfl, hge.out, hP.out⟩
      | succ k1 =>
        have c3 : x < (l0.length : Int) := by have := hx.out; omega
        have c3b0 : decide (x < (l0.length : Int)) = true := decide_eq_true c3
        have p228 : 0 ≤ x := hx.out.1
        obtain ⟨ad, ead, hx0, hx1, hx2, hx3⟩ := at_T35 HR0.out x p228 c3
        cases ead
        have hdrop : l0.drop x.toNat = rd_T35 l0 x :: l0.drop (x.toNat + 1) := by
          have hlt : x.toNat < l0.length := by omega
          rw [List.drop_eq_getElem_cons hlt]
          unfold rd_T35
          rw [List.getD_eq_getElem?_getD, List.getElem?_eq_getElem hlt]
          rfl
        have hc2 := hcmp.out
        rw [hdrop] at hc2
        obtain ⟨⟨p, mi, mx, kd⟩, hrd⟩ : ∃ q, q = rd_T35 l0 x := ⟨_, rfl⟩
        rw [← hrd] at hx0 hx1 hx2 hx3 hc2
        simp only at hx0 hx1 hx2 hx3
        clear hrd hdrop hcmp
        replace hx0 := (HB.out.cell (World.block_lt_of_cell? w _ hx0)).trans hx0
        replace hx1 := (HB.out.cell (World.block_lt_of_cell? w _ hx1)).trans hx1
        replace hx2 := (HB.out.cell (World.block_lt_of_cell? w _ hx2)).trans hx2
        replace hx3 := (HB.out.cell (World.block_lt_of_cell? w _ hx3)).trans hx3
        replace p228 := eq_true p228
        replace c3 := eq_true c3
        rw [cmpL] at hc2
        replace hc2 := Aside0.mk hc2
        go_upto_region 8 with (fail)
        obtain ⟨W8, hW8⟩ : ∃ W8, wr.alloc (.cells #[.string p, .int .i64 mi, .int .i64 mx, .int .i64 kd] 35) = W8 := ⟨_, rfl⟩
        rw [hW8]
        have hbox8 : W8.heap[wr.heap.size]? = some (.cells #[.string p, .int .i64 mi, .int .i64 mx, .int .i64 kd] 35 (0, 0)) := by rw [← hW8]; exact blk_new _ _
        have hb8 : Below wr.heap.size wr W8 := by rw [← hW8]; exact below_alloc (Below.refl _ _) _
        have hP8 := PlanAt_below hP.out hb8
        have hB8 := below_step HB.out hb8
        clear hx0 hx1 hx2 hx3 hP HB hW8 hb8
        obtain ⟨At8, ct8, hpl, hC8, hl8⟩ := hP8
        replace hbox8 := Aside0.mk hbox8
        replace hB8 := Aside0.mk hB8
        replace hC8 := Aside0.mk hC8
        replace hl8 := Aside0.mk hl8
        replace hpl := Aside0.mk hpl
        obtain ⟨⟨t2, e2⟩, hput, hc3⟩ := Option.bind_eq_some_iff.1 hc2.out
        simp only at hc3
        replace hput := Aside0.mk hput
        replace hc3 := Aside0.mk hc3
        have hq1 : W8.cell? ⟨g, 1, none⟩ = some (.slice At8 t.length ct8) := (blk_cell hpl.out 1).trans rfl
        have hq2 : W8.cell? ⟨wr.heap.size, 0, none⟩ = some (.string p) := (blk_cell hbox8.out 0).trans rfl
        have hx1 : IntKind.i64.wrap (x + 1) = x + 1 := (i64_w _).trans (w64c (by have := hx.out; have := hl64.out; omega) (by have := hx.out; have := hl64.out; omega))
        have hn1 : W8.heap.size ≠ g := Nat.ne_of_gt (blk_lt hpl.out)
        have hn2 : W8.heap.size ≠ wr.heap.size := Nat.ne_of_gt (blk_lt hbox8.out)
        clear hc2
        go_region_held3 (fun W => W.cell? ⟨g, 1, none⟩ = some (.slice At8 t.length ct8) ∧ W.cell? ⟨wr.heap.size, 0, none⟩ = some (.string p)) (go_keep) (first | (go_at_call 18; refine (trie_Put.calls k At8 ct8 t p (x + 1) t2 e2 _ (by repeat (first | exact hC8.out | refine Kd.C_alloc ?_ _ | refine Kd.C_drew ?_)) hl8.out hput.out).mono ?_; rintro e W9 ⟨v9, rfl, hR9, hB9⟩; have hpl9 := Aside0.mk (blk_below (g := g) (o := .cells #[.slice (some ad) l0.length c0, .slice At8 t.length ct8] 106 (0, 0)) (by repeat (first | exact hpl.out | refine blk_alloc ?_ _ | refine blk_drew ?_)) hB9); have hbx9 := Aside0.mk (blk_below (g := wr.heap.size) (o := .cells #[.string p, .int .i64 mi, .int .i64 mx, .int .i64 kd] 35 (0, 0)) (by repeat (first | exact hbox8.out | refine blk_alloc ?_ _ | refine blk_drew ?_)) hB9); have hq1 : W9.cell? ⟨g, 1, none⟩ = some (.slice At8 t.length ct8) := (blk_cell hpl9.out 1).trans rfl; have hq2 : W9.cell? ⟨wr.heap.size, 0, none⟩ = some (.string p) := (blk_cell hbx9.out 0).trans rfl; obtain ⟨Ap, cp, ep⟩ := Kd.R_slice hR9; subst ep; (try (have hz9 := blk_below (w := W8.drew.alloc (.cells #[.slice none 0 0] 32)) (blk_new _ _) hB9; have hz9c : W9.cell? ⟨W8.heap.size, 0, none⟩ = some (.slice none 0 0) := (blk_cell hz9 0).trans rfl; have hz9f : W9.frozen? ⟨W8.heap.size, 0, none⟩ = false := blk_frozen hz9 0; replace hz9 := Aside0.mk hz9)); have hn3 : W9.heap.size ≠ g := Nat.ne_of_gt (blk_lt hpl9.out); have hn4 : W9.heap.size ≠ wr.heap.size := Nat.ne_of_gt (blk_lt hbx9.out); replace hR9 := Aside0.mk hR9; replace hB9 := Aside0.mk hB9))
        · obtain ⟨W10, hW10⟩ : ∃ W10, W9.alloc (.cells #[.slice Ap t2.length cp] 32) = W10 := ⟨_, rfl⟩
          rw [hW10]
          have hb10 : Below W9.heap.size W9 W10 := by rw [← hW10]; exact below_alloc (Below.refl _ _) _
          have hbx10 : W10.heap[W9.heap.size]? = some (.cells #[.slice Ap t2.length cp] 32 (0, 0)) := by rw [← hW10]; exact blk_new _ _
          have hpl10 := blk_below hpl9.out hb10
          have hR10 := Kd.R_below hR9.out hb10
          have hB10 : Below w.heap.size w W10 := below_step (below_step (below_drew hB8.out) hB9.out) hb10
          clear hW10 hb10
          have hcb : W10.cell? ⟨W9.heap.size, 0, none⟩ = some (.slice Ap t2.length cp) := (blk_cell hbx10 0).trans rfl
          have hcg : W10.cell? ⟨g, 1, none⟩ = some (.slice At8 t.length ct8) := (blk_cell hpl10 1).trans rfl
          have hfg : W10.frozen? ⟨g, 1, none⟩ = false := blk_frozen hpl10 1
          clear hn1 hn2 hn3 hn4 hq1 hq2 hx1
          replace hR10 := Aside0.mk hR10
          replace hB10 := Aside0.mk hB10
          replace hpl10 := Aside0.mk hpl10
          replace hbx10 := Aside0.mk hbx10
          have hxw : wrap64 (x + 1) = x + 1 := w64c (by have := hx.out; have := hl64.out; omega) (by have := hx.out; have := hl64.out; omega)
          replace hxw := Aside0.mk hxw
          cases c9 : decide (e2 = 0) with
          | false =>
            have c9' : e2 ≠ 0 := of_decide_eq_false c9
            have c9b : (e2 != 0) = true := bne_iff_ne.2 c9'
            have c9c : (e2 == 0) = false := beq_eq_false_iff_ne.2 c9'
            have h1 := hc3.out
            rw [if_neg c9'] at h1
            simp only [Option.some.injEq, Prod.mk.injEq] at h1
            obtain ⟨rfl, rfl⟩ := h1
            go_wp2
            go_ret2
            exact ⟨_, rfl, hB10.out, fun _ => rfl, fun h0 => absurd h0 c9'⟩
          | true =>
            have c9' : e2 = 0 := of_decide_eq_true c9
            have h1 := hc3.out
            rw [if_pos c9'] at h1
            subst c9'
            replace h1 := Aside0.mk h1
            clear hc3
            go_wp2
            go_roundg k1
            case measure => omega
            case rel =>
              have hR11 := Kd.R_far (p := ⟨g, 1, none⟩) (Kd.R_types hR10.out hpl10.out (by decide)) (fun _ hk => hk.2) (.slice Ap t2.length cp)
              refine ⟨x + 1, t2, ?_, ⟨by have := hx.out; omega⟩, ⟨?_⟩, ⟨⟨Ap, cp, blk_put hpl10.out 1 _ rfl, (Kd.R_reads' hR11).2.2, (Kd.R_reads' hR11).2.1⟩⟩, ⟨below_set hB10.out hge.out⟩⟩
              · rw [hxw.out]
              · have : (x + 1).toNat = x.toNat + 1 := by have := hx.out; omega
                rw [this]
                exact h1.out
        · obtain ⟨W10, hW10⟩ : ∃ W10, W9.setCell ⟨W8.heap.size, 0, none⟩ (.slice Ap t2.length cp) = W10 := ⟨_, rfl⟩
          rw [hW10]
          have hbx10 : W10.heap[W8.heap.size]? = some (.cells #[.slice Ap t2.length cp] 32 (0, 0)) := by rw [← hW10]; exact blk_put hz9.out 0 _ rfl
          have hpl10 : W10.heap[g]? = some (.cells #[.slice (some ad) l0.length c0, .slice At8 t.length ct8] 106 (0, 0)) := by rw [← hW10]; exact blk_far hpl9.out (fun e => hn1 e.symm) _
          have hR10 := Kd.R_mono (Kd.R_far (p := ⟨W8.heap.size, 0, none⟩) (Kd.R_types hR9.out hz9.out (by decide)) (fun _ hk => hk.2) (.slice Ap t2.length cp)) (fun _ h_ => h_.1)
          rw [hW10] at hR10
          have hB10 : Below w.heap.size w W10 := by
            rw [← hW10]
            exact below_set (below_step (below_alloc (below_drew hB8.out) _) hB9.out) hB8.out.size
          clear hW10
          have hcb : W10.cell? ⟨W8.heap.size, 0, none⟩ = some (.slice Ap t2.length cp) := (blk_cell hbx10 0).trans rfl
          have hcg : W10.cell? ⟨g, 1, none⟩ = some (.slice At8 t.length ct8) := (blk_cell hpl10 1).trans rfl
          have hfg : W10.frozen? ⟨g, 1, none⟩ = false := blk_frozen hpl10 1
          clear hn1 hn2 hn3 hn4 hq1 hq2 hx1
          replace hR10 := Aside0.mk hR10
          replace hB10 := Aside0.mk hB10
          replace hpl10 := Aside0.mk hpl10
          replace hbx10 := Aside0.mk hbx10
          have hxw : wrap64 (x + 1) = x + 1 := w64c (by have := hx.out; have := hl64.out; omega) (by have := hx.out; have := hl64.out; omega)
          replace hxw := Aside0.mk hxw
          cases c9 : decide (e2 = 0) with
          | false =>
            have c9' : e2 ≠ 0 := of_decide_eq_false c9
            have c9b : (e2 != 0) = true := bne_iff_ne.2 c9'
            have c9c : (e2 == 0) = false := beq_eq_false_iff_ne.2 c9'
            have h1 := hc3.out
            rw [if_neg c9'] at h1
            simp only [Option.some.injEq, Prod.mk.injEq] at h1
            obtain ⟨rfl, rfl⟩ := h1
            go_wp2
            go_ret2
            exact ⟨_, rfl, hB10.out, fun _ => rfl, fun h0 => absurd h0 c9'⟩
          | true =>
            have c9' : e2 = 0 := of_decide_eq_true c9
            have h1 := hc3.out
            rw [if_pos c9'] at h1
            subst c9'
            replace h1 := Aside0.mk h1
            clear hc3
            go_wp2
            go_roundg k1
            case measure => omega
            case rel =>
              have hR11 := Kd.R_far (p := ⟨g, 1, none⟩) (Kd.R_types hR10.out hpl10.out (by decide)) (fun _ hk => hk.2) (.slice Ap t2.length cp)
              refine ⟨x + 1, t2, ?_, ⟨by have := hx.out; omega⟩, ⟨?_⟩, ⟨⟨Ap, cp, blk_put hpl10.out 1 _ rfl, (Kd.R_reads' hR11).2.2, (Kd.R_reads' hR11).2.1⟩⟩, ⟨below_set hB10.out hge.out⟩⟩
              · rw [hxw.out]
              · have : (x + 1).toNat = x.toNat + 1 := by have := hx.out; omega
                rw [this]
                exact h1.out

end Go.Proofs.YthknfclhkmehgaaDoor.Fn
