-- printed by a program of this session, out of the translation; Lean checks it
import Derived.Test.YtmendieiikmbhaaDoorFn0
import Derived.Test.YtmendieiikmbhaaDoorFn2
import Derived.Test.YtmendieiikmbhaaDoorFn12x4
import Derived.Test.YtmendieiikmbhaaDoorEDial
import Derived.Test.YtmendieiikmbhaaDoorESaneD
namespace Go.Proofs.YtmendieiikmbhaaDoor.Fn
open Go.RowKit Go.Proofs.YtmendieiikmbhaaDoorW.PrintWords Go.Proofs.YtmendieiikmbhaaDoorW.PrintLast Go.Proofs.YtmendieiikmbhaaDoorW.PrintMore
attribute [local go_sem] max2_int min2_int max_two min_two max_three min_three max_four min_four   -- for this text's walks alone
set_option linter.unusedVariables false
set_option linter.unusedSimpArgs false

attribute [local go_sem high] eqA55
/-! ### crossbarlaw08_DialplanOverlapAgreesWithEnBloc: function 13 -/
noncomputable def crossbarlaw08_DialplanOverlapAgreesWithEnBloc.j0 : Nat → Int → Int → Bool → Int → Int → Int → Int → Option (Bool)
  | 0, _, _, _, _, _, _, _ => none
  | k + 1, x6, x8, x32, x574000, x574001, x578000, x578001 => if x32 = true then (if x6 = x8 then (if (x574000 == 0 && (x574001 == 0)) = true then (some (x578000 == 0 && (x578001 == 0))) else (some false)) else (some false)) else (if x574000 = 1 then (if x574001 = x578001 then (if x578000 = 1 then (some false) else (if x578000 = 2 then (some (x574000 != 3)) else (some true))) else (some false)) else (if (!(x574000 == x578000) || (!(x574001 == x578001))) = true then (some false) else (if x574001 = x578001 then (if x578000 = 1 then (some false) else (if x578000 = 2 then (some (x574000 != 3)) else (some true))) else (some false))))
noncomputable def crossbarlaw08_DialplanOverlapAgreesWithEnBloc.f (k : Nat) (l0 : List (S61)) (a1 : ByteArray) : Option (Bool) := (crossbarlaw08_sane.f).bind fun t568 => (if t568 = true then ((crossbarref08_Few.f k l0 a1).bind fun t569 => (if t569 = true then ((dialplan_Analyze.f k l0 a1 false).bind fun bt570 => ((dialplan_Analyze.f k l0 a1 true).bind fun bt574 => (if bt570.2.2 = 0 then (crossbarlaw08_DialplanOverlapAgreesWithEnBloc.j0 k bt570.2.2 bt574.2.2 (bt574.2.2 != 0) bt570.1 bt570.2.1 bt574.1 bt574.2.1) else (crossbarlaw08_DialplanOverlapAgreesWithEnBloc.j0 k bt570.2.2 bt574.2.2 true bt570.1 bt570.2.1 bt574.1 bt574.2.1)))) else (some true))) else (some false))
theorem crossbarlaw08_DialplanOverlapAgreesWithEnBloc.mono_l : ∀ k, (∀ y0 y1 y2 y3 y4 y5 y6, LeO (crossbarlaw08_DialplanOverlapAgreesWithEnBloc.j0 k y0 y1 y2 y3 y4 y5 y6) (crossbarlaw08_DialplanOverlapAgreesWithEnBloc.j0 (k + 1) y0 y1 y2 y3 y4 y5 y6))
  | 0 => fun _ _ _ _ _ _ _ r h => by simp [crossbarlaw08_DialplanOverlapAgreesWithEnBloc.j0] at h
  | k + 1 => by
    have ih0 := crossbarlaw08_DialplanOverlapAgreesWithEnBloc.mono_l k
    · intro y0 y1 y2 y3 y4 y5 y6
      unfold crossbarlaw08_DialplanOverlapAgreesWithEnBloc.j0
      repeat' first
      | (with_reducible exact ih0 _ _ _ _ _ _ _)
      | (with_reducible exact crossbarref08_Few.mono _ _ _)
      | (with_reducible exact dialplan_Analyze.mono _ _ _ _)
      | (with_reducible exact LeO.refl _)
      | (with_reducible exact LeO.none _)
      | (with_reducible refine LeO.ite ?_ ?_)
      | (with_reducible refine LeO.bind ?_ (fun _ => ?_))
      | exact ih0 _ _ _ _ _ _ _
      | exact crossbarref08_Few.mono _ _ _
      | exact dialplan_Analyze.mono _ _ _ _
      | exact LeO.none _
      | refine LeO.ite ?_ ?_
      | refine LeO.bind ?_ (fun _ => ?_)
theorem crossbarlaw08_DialplanOverlapAgreesWithEnBloc.mono : ∀ a0 a1 k, LeO (crossbarlaw08_DialplanOverlapAgreesWithEnBloc.f k a0 a1) (crossbarlaw08_DialplanOverlapAgreesWithEnBloc.f (k + 1) a0 a1) := by
  intro a0 a1 k
  have ih0 := crossbarlaw08_DialplanOverlapAgreesWithEnBloc.mono_l k
  unfold crossbarlaw08_DialplanOverlapAgreesWithEnBloc.f
  repeat' first
      | (with_reducible exact ih0 _ _ _ _ _ _ _)
      | (with_reducible exact crossbarref08_Few.mono _ _ _)
      | (with_reducible exact dialplan_Analyze.mono _ _ _ _)
      | (with_reducible exact LeO.refl _)
      | (with_reducible exact LeO.none _)
      | (with_reducible refine LeO.ite ?_ ?_)
      | (with_reducible refine LeO.bind ?_ (fun _ => ?_))
      | exact ih0 _ _ _ _ _ _ _
      | exact crossbarref08_Few.mono _ _ _
      | exact dialplan_Analyze.mono _ _ _ _
      | exact LeO.none _
      | refine LeO.ite ?_ ?_
      | refine LeO.bind ?_ (fun _ => ?_)
set_option maxHeartbeats 8000000 in
set_option maxRecDepth 100000 in
theorem crossbarlaw08_DialplanOverlapAgreesWithEnBloc.calls (k : Nat) (A0 : Option Addr) (c0 : Nat) (l0 : List (S61)) (a1 : ByteArray) (r : Bool) (ht : r = true) (w : World) (hr0 : Kd.C k61 w A0 l0.length l0) (hc0 : l0.length ≤ c0) (h : crossbarlaw08_DialplanOverlapAgreesWithEnBloc.f k l0 a1 = some r) :
    Calls Tryd.prog 13 #[.slice A0 l0.length c0, .string a1] w fun e w' => e = .returned (.bool r) ∧ Below w.heap.size w w' := by
  have hu55 := Tryd.underlying55
  have HR0 := Aside0.mk hr0
  have HC0 := Aside0.mk hc0
  clear hr0 hc0
  have HB := Aside0.mk (Below.refl w.heap.size w)
  have H : ((crossbarlaw08_sane.f).bind fun t568 => (if t568 = true then ((crossbarref08_Few.f k l0 a1).bind fun t569 => (if t569 = true then ((dialplan_Analyze.f k l0 a1 false).bind fun bt570 => ((dialplan_Analyze.f k l0 a1 true).bind fun bt574 => (if bt570.2.2 = 0 then (crossbarlaw08_DialplanOverlapAgreesWithEnBloc.j0 k bt570.2.2 bt574.2.2 (bt574.2.2 != 0) bt570.1 bt570.2.1 bt574.1 bt574.2.1) else (crossbarlaw08_DialplanOverlapAgreesWithEnBloc.j0 k bt570.2.2 bt574.2.2 true bt570.1 bt570.2.1 bt574.1 bt574.2.1)))) else (some true))) else (some false))) = some r := h
  clear h
  replace H := Option.bind_eq_some_iff.mp H
  obtain ⟨t568, A30, H⟩ := H
  replace H : (if t568 = true then ((crossbarref08_Few.f k l0 a1).bind fun t569 => (if t569 = true then ((dialplan_Analyze.f k l0 a1 false).bind fun bt570 => ((dialplan_Analyze.f k l0 a1 true).bind fun bt574 => (if bt570.2.2 = 0 then (crossbarlaw08_DialplanOverlapAgreesWithEnBloc.j0 k bt570.2.2 bt574.2.2 (bt574.2.2 != 0) bt570.1 bt570.2.1 bt574.1 bt574.2.1) else (crossbarlaw08_DialplanOverlapAgreesWithEnBloc.j0 k bt570.2.2 bt574.2.2 true bt570.1 bt570.2.1 bt574.1 bt574.2.1)))) else (some true))) else (some false)) = some r := H
  have A3 := Aside0.mk A30
  clear A30
  by_cases c4 : t568 = true
  · subst c4
    have H1 : ((crossbarref08_Few.f k l0 a1).bind fun t569 => (if t569 = true then ((dialplan_Analyze.f k l0 a1 false).bind fun bt570 => ((dialplan_Analyze.f k l0 a1 true).bind fun bt574 => (if bt570.2.2 = 0 then (crossbarlaw08_DialplanOverlapAgreesWithEnBloc.j0 k bt570.2.2 bt574.2.2 (bt574.2.2 != 0) bt570.1 bt570.2.1 bt574.1 bt574.2.1) else (crossbarlaw08_DialplanOverlapAgreesWithEnBloc.j0 k bt570.2.2 bt574.2.2 true bt570.1 bt570.2.1 bt574.1 bt574.2.1)))) else (some true))) = some r := by rw [if_pos rfl] at H; exact H
    clear H
    have H := H1
    clear H1
    replace H := Option.bind_eq_some_iff.mp H
    obtain ⟨t569, A50, H⟩ := H
    replace H : (if t569 = true then ((dialplan_Analyze.f k l0 a1 false).bind fun bt570 => ((dialplan_Analyze.f k l0 a1 true).bind fun bt574 => (if bt570.2.2 = 0 then (crossbarlaw08_DialplanOverlapAgreesWithEnBloc.j0 k bt570.2.2 bt574.2.2 (bt574.2.2 != 0) bt570.1 bt570.2.1 bt574.1 bt574.2.1) else (crossbarlaw08_DialplanOverlapAgreesWithEnBloc.j0 k bt570.2.2 bt574.2.2 true bt570.1 bt570.2.1 bt574.1 bt574.2.1)))) else (some true)) = some r := H
    have A5 := Aside0.mk A50
    clear A50
    by_cases c6 : t569 = true
    · subst c6
      have H1 : ((dialplan_Analyze.f k l0 a1 false).bind fun bt570 => ((dialplan_Analyze.f k l0 a1 true).bind fun bt574 => (if bt570.2.2 = 0 then (crossbarlaw08_DialplanOverlapAgreesWithEnBloc.j0 k bt570.2.2 bt574.2.2 (bt574.2.2 != 0) bt570.1 bt570.2.1 bt574.1 bt574.2.1) else (crossbarlaw08_DialplanOverlapAgreesWithEnBloc.j0 k bt570.2.2 bt574.2.2 true bt570.1 bt570.2.1 bt574.1 bt574.2.1)))) = some r := by rw [if_pos rfl] at H; exact H
      clear H
      have H := H1
      clear H1
      replace H := Option.bind_eq_some_iff.mp H
      obtain ⟨⟨t570, t571, t572⟩, A70, H⟩ := H
      replace H : ((dialplan_Analyze.f k l0 a1 true).bind fun bt574 => (if t572 = 0 then (crossbarlaw08_DialplanOverlapAgreesWithEnBloc.j0 k t572 bt574.2.2 (bt574.2.2 != 0) t570 t571 bt574.1 bt574.2.1) else (crossbarlaw08_DialplanOverlapAgreesWithEnBloc.j0 k t572 bt574.2.2 true t570 t571 bt574.1 bt574.2.1))) = some r := H
      have A7 := Aside0.mk A70
      clear A70
      replace H := Option.bind_eq_some_iff.mp H
      obtain ⟨⟨t574, t575, t576⟩, A80, H⟩ := H
      replace H : (if t572 = 0 then (crossbarlaw08_DialplanOverlapAgreesWithEnBloc.j0 k t572 t576 (t576 != 0) t570 t571 t574 t575) else (crossbarlaw08_DialplanOverlapAgreesWithEnBloc.j0 k t572 t576 true t570 t571 t574 t575)) = some r := H
      have A8 := Aside0.mk A80
      clear A80
      have HC9 := Aside0.mk H
      clear H
      go_enter Tryd.func13, Tryd.ntmps13
      go_upto_region 7 with (first | ((with_reducible refine gate_callee (f := 40) rfl ?_); refine goesL_ (some 9) rfl rfl Tryd.func40 (by kernel_rfl) rfl #[] rfl (by (try simp only [List.map_toArray, List.map_cons, List.map_nil]); first | done | rfl | (simp only [List.length_drop, List.length_take]; rfl)) ?_; (with_reducible refine (crossbarlaw08_sane.calls  true _ A3.out).mono ?_); rintro e w10 ⟨rfl, hb⟩; refine ⟨_, rfl, ?_⟩; have n0_ := Aside0.mk (below_step (by repeat (first | (with_reducible first | exact HB.out | apply below_alloc | apply pw_below_drewN | apply below_drew1) | exact HB.out)) hb); clear HB; have HB := n0_; clear n0_; (try clear hb); (try clear hb2); (try clear hk); (try clear hi)) | ((with_reducible refine gate_callee (f := 41) rfl ?_); refine goesL_ (some 13) rfl rfl Tryd.func41 (by kernel_rfl) rfl #[.slice A0 l0.length c0, .string a1] rfl (by (try simp only [List.map_toArray, List.map_cons, List.map_nil]); first | done | rfl | (simp only [List.length_drop, List.length_take]; rfl)) ?_; (with_reducible refine (crossbarref08_Few.calls k _ _ l0 a1 true _ ?side1 ?side2 A5.out).mono ?_); (case side1 => repeat (first | exact (Kd.C_below HR0.out HB.out) | (with_reducible refine Kd.C_alloc ?_ _) | (with_reducible refine Kd.C_drewN ?_ _) | (with_reducible refine Kd.C_drew ?_))); (case side2 => exact HC0.out); rintro e w' ⟨rfl, ⟨nd, rfl⟩⟩; refine ⟨_, rfl, ?_⟩; (try (rw [drewN_self w10]; generalize hq_ : World.drewN w10 _ = w10; have n0_ : Aside0 (Below w.heap.size w w10) := ⟨by rw [← hq_]; exact (by repeat (first | (with_reducible first | exact HB.out | apply below_alloc | apply pw_below_drewN | apply below_drew1) | exact HB.out))⟩; clear HB hq_; have HB := n0_; clear n0_))) | ((with_reducible refine gate_callee (f := 38) rfl ?_); refine goesL_ (some 18) rfl rfl Tryd.func38 (by kernel_rfl) rfl #[.slice A0 l0.length c0, .string a1, .bool false] rfl (by (try simp only [List.map_toArray, List.map_cons, List.map_nil]); first | done | rfl | (simp only [List.length_drop, List.length_take]; rfl)) ?_; (with_reducible refine (dialplan_Analyze.calls k _ _ l0 a1 false t570 t571 t572 _ ?side1 ?side2 A7.out).mono ?_); (case side1 => repeat (first | exact (Kd.C_below HR0.out HB.out) | (with_reducible refine Kd.C_alloc ?_ _) | (with_reducible refine Kd.C_drewN ?_ _) | (with_reducible refine Kd.C_drew ?_))); (case side2 => exact HC0.out); rintro e w11 ⟨rfl, hb⟩; refine ⟨_, rfl, ?_⟩; have n0_ := Aside0.mk (below_step (by repeat (first | (with_reducible first | exact HB.out | apply below_alloc | apply pw_below_drewN | apply below_drew1) | exact HB.out)) hb); clear HB; have HB := n0_; clear n0_; (try clear hb); (try clear hb2); (try clear hk); (try clear hi)) | ((with_reducible refine gate_dst (N := 5) rfl ?_); refine box_event ?hg (N := 5) ?hd (cs := #[.int .i64 0, .int .i64 0]) (t := 55) ?hr ?_; (case hd => rfl); (case hg => rfl); (case hr => first | (go_simp; done) | (go_simp; rfl)); intro gb573 hg w12 hbox hb; have n0_ := Aside0.mk (below_step (by repeat (first | (with_reducible first | exact HB.out | apply below_alloc | apply pw_below_drewN | apply below_drew1) | exact HB.out)) hb); have n1_ := Aside0.mk (hbox); have n2_ := Aside0.mk ((by rw [hg]; exact (below_size (by repeat (first | (with_reducible first | exact HB.out | apply below_alloc | apply pw_below_drewN | apply below_drew1) | exact HB.out))) : w.heap.size ≤ gb573)); have n3_ := Aside0.mk ((by rw [hg]; exact (below_size (by repeat (first | (with_reducible first | exact HB.out | apply below_alloc | apply pw_below_drewN | apply below_drew1) | exact HB.out))) : w.heap.size ≤ gb573)); clear HB; have HB := n0_; have BK573 := n1_; have GW573 := n2_; have GE573 := n3_; clear n0_ n1_ n2_ n3_; clear hb hbox hg; have hcz13_0 : w12.cell? ⟨gb573, 0, none⟩ = some (.int .i64 0) := (blk_cell BK573.out 0).trans rfl; have hcz13_1 : w12.cell? ⟨gb573, 1, none⟩ = some (.int .i64 0) := (blk_cell BK573.out 1).trans rfl; have hfz13_0 := blk_frozen BK573.out 0; have hfz13_1 := blk_frozen BK573.out 1) | ((with_reducible refine gate_callee (f := 38) rfl ?_); refine goesL_ (some 24) rfl rfl Tryd.func38 (by kernel_rfl) rfl #[.slice A0 l0.length c0, .string a1, .bool true] rfl (by (try simp only [List.map_toArray, List.map_cons, List.map_nil]); first | done | rfl | (simp only [List.length_drop, List.length_take]; rfl)) ?_; (with_reducible refine (dialplan_Analyze.calls k _ _ l0 a1 true t574 t575 t576 _ ?side1 ?side2 A8.out).mono ?_); (case side1 => exact Kd.C_below HR0.out (by repeat (first | (with_reducible first | exact HB.out | apply below_alloc | apply pw_below_drewN | apply below_drew1 | refine below_set ?_ GE573.out) | exact HB.out))); (case side2 => exact HC0.out); rintro e w14 ⟨rfl, hb⟩; refine ⟨_, rfl, ?_⟩; have n0_ := Aside0.mk (blk_below (g := gb573) (o := .cells #[.int .i64 t570, .int .i64 t571] 55 (0, 0)) (by (with_reducible repeat (first | refine blk_drewN ?_ _ | refine blk_drew ?_ | refine blk_alloc ?_ _)); refine blk_put (cs := #[.int .i64 t570, .int .i64 0]) ?_ 1 _ rfl; (with_reducible repeat (first | refine blk_drewN ?_ _ | refine blk_drew ?_ | refine blk_alloc ?_ _)); refine blk_put (cs := #[.int .i64 0, .int .i64 0]) ?_ 0 _ rfl; (with_reducible repeat (first | refine blk_drewN ?_ _ | refine blk_drew ?_ | refine blk_alloc ?_ _)); exact BK573.out) hb); have n1_ := Aside0.mk (below_step (by repeat (first | (with_reducible first | exact HB.out | apply below_alloc | apply pw_below_drewN | apply below_drew1 | refine below_set ?_ GE573.out) | exact HB.out)) hb); clear BK573; clear HB; have BK573 := n0_; have HB := n1_; clear n0_ n1_; (try clear hb); (try clear hb2); (try clear hk); (try clear hi)) | ((with_reducible refine gate_dst (N := 7) rfl ?_); refine box_event ?hg (N := 7) ?hd (cs := #[.int .i64 0, .int .i64 0]) (t := 55) ?hr ?_; (case hd => rfl); (case hg => rfl); (case hr => first | (go_simp; done) | (go_simp; rfl)); intro gb577 hg w15 hbox hb; have n0_ := Aside0.mk (blk_below (g := gb573) (o := .cells #[.int .i64 t570, .int .i64 t571] 55 (0, 0)) (by (with_reducible repeat (first | refine blk_drewN ?_ _ | refine blk_drew ?_ | refine blk_alloc ?_ _)); exact BK573.out) hb); have n1_ := Aside0.mk (below_step (by repeat (first | (with_reducible first | exact HB.out | apply below_alloc | apply pw_below_drewN | apply below_drew1 | refine below_set ?_ GE573.out) | exact HB.out)) hb); have n2_ := Aside0.mk (hbox); have n3_ := Aside0.mk ((by rw [hg]; exact (below_size (by repeat (first | (with_reducible first | exact HB.out | apply below_alloc | apply pw_below_drewN | apply below_drew1 | refine below_set ?_ GE573.out) | exact HB.out))) : w.heap.size ≤ gb577)); have n4_ := Aside0.mk ((by rw [hg]; exact (below_size (by repeat (first | (with_reducible first | exact HB.out | apply below_alloc | apply pw_below_drewN | apply below_drew1 | refine below_set ?_ GE573.out) | exact HB.out))) : w.heap.size ≤ gb577)); have n5_ := Aside0.mk ((by rw [hg]; exact Nat.ne_of_lt (blk_lt (g := gb573) (o := .cells #[.int .i64 t570, .int .i64 t571] 55 (0, 0)) (by (with_reducible repeat (first | refine blk_drewN ?_ _ | refine blk_drew ?_ | refine blk_alloc ?_ _)); exact BK573.out)) : gb573 ≠ gb577)); have n6_ := Aside0.mk ((by rw [hg]; exact Nat.ne_of_gt (blk_lt (g := gb573) (o := .cells #[.int .i64 t570, .int .i64 t571] 55 (0, 0)) (by (with_reducible repeat (first | refine blk_drewN ?_ _ | refine blk_drew ?_ | refine blk_alloc ?_ _)); exact BK573.out)) : gb577 ≠ gb573)); clear BK573; clear HB; have BK573 := n0_; have HB := n1_; have BK577 := n2_; have GW577 := n3_; have GE577 := n4_; have NB573_577 := n5_; have NB577_573 := n6_; clear n0_ n1_ n2_ n3_ n4_ n5_ n6_; clear hb hbox hg; have hnb16 := NB577_573.out; have hnc16 := NB573_577.out; have hcz17_0 : w15.cell? ⟨gb577, 0, none⟩ = some (.int .i64 0) := (blk_cell BK577.out 0).trans rfl; have hcz17_1 : w15.cell? ⟨gb577, 1, none⟩ = some (.int .i64 0) := (blk_cell BK577.out 1).trans rfl; have hfz17_0 := blk_frozen BK577.out 0; have hfz17_1 := blk_frozen BK577.out 1))
      (try simp only [Act.put, List.setIfInBounds_toArray, List.set_cons_zero, List.set_cons_succ])
      go_cut [32] (fun v32 wc => ∃ (kq : Nat) (x32_8 : Bool), v32 = .bool x32_8 ∧ Aside0 (crossbarlaw08_DialplanOverlapAgreesWithEnBloc.j0 kq t572 t576 x32_8 t570 t571 t574 t575 = some r) ∧ Aside0 (kq ≤ k) ∧ Aside0 (wc.heap[gb573]? = some (.cells #[.int .i64 t570, .int .i64 t571] 55 (0, 0))) ∧ Aside0 (wc.heap[gb577]? = some (.cells #[.int .i64 t574, .int .i64 t575] 55 (0, 0))) ∧ Aside0 (Below w.heap.size w wc))
      case first =>
        have H := HC9.out
        clear HC9
        by_cases c18 : t572 = 0
        · rw [if_pos c18] at H
          have c18b0 : (t572 == 0) = true := beq_iff_eq.mpr c18
          have c18b1 : (t572 != 0) = false := bne_eq_false_iff_eq.mpr c18
          clear c18
          (first | rw [c18b0] | (simp only [i64_w, i32_w]; rw [c18b0]) | skip)
          have H' := Aside0.mk H
          clear H
          go_wp2
          go_meet
          case rel => exact ⟨_, ((t576 != 0)), (by first | rfl | (simp; done) | (simp [*]; done)), H', ⟨by first | omega | exact Nat.le_refl _⟩, ⟨by (with_reducible repeat (first | refine blk_drewN ?_ _ | refine blk_drew ?_ | refine blk_alloc ?_ _)); refine blk_far ?_ NB573_577.out _; (with_reducible repeat (first | refine blk_drewN ?_ _ | refine blk_drew ?_ | refine blk_alloc ?_ _)); refine blk_far ?_ NB573_577.out _; (with_reducible repeat (first | refine blk_drewN ?_ _ | refine blk_drew ?_ | refine blk_alloc ?_ _)); exact BK573.out⟩, ⟨by (with_reducible repeat (first | refine blk_drewN ?_ _ | refine blk_drew ?_ | refine blk_alloc ?_ _)); refine blk_put (cs := #[.int .i64 t574, .int .i64 0]) ?_ 1 _ rfl; (with_reducible repeat (first | refine blk_drewN ?_ _ | refine blk_drew ?_ | refine blk_alloc ?_ _)); refine blk_put (cs := #[.int .i64 0, .int .i64 0]) ?_ 0 _ rfl; (with_reducible repeat (first | refine blk_drewN ?_ _ | refine blk_drew ?_ | refine blk_alloc ?_ _)); exact BK577.out⟩, ⟨by repeat (first | (with_reducible first | exact HB.out | apply below_alloc | apply pw_below_drewN | apply below_drew1 | refine below_set ?_ GE573.out | refine below_set ?_ GE577.out) | exact HB.out)⟩⟩
        · rw [if_neg c18] at H
          have c18b0 : (t572 == 0) = false := beq_eq_false_iff_ne.mpr c18
          have c18b1 : (t572 != 0) = true := bne_iff_ne.mpr c18
          (first | rw [c18b0] | (simp only [i64_w, i32_w]; rw [c18b0]) | skip)
          have H' := Aside0.mk H
          clear H
          go_wp2
          go_meet
          case rel => exact ⟨_, (true), (by first | rfl | (simp; done) | (simp [*]; done)), H', ⟨by first | omega | exact Nat.le_refl _⟩, ⟨by (with_reducible repeat (first | refine blk_drewN ?_ _ | refine blk_drew ?_ | refine blk_alloc ?_ _)); refine blk_far ?_ NB573_577.out _; (with_reducible repeat (first | refine blk_drewN ?_ _ | refine blk_drew ?_ | refine blk_alloc ?_ _)); refine blk_far ?_ NB573_577.out _; (with_reducible repeat (first | refine blk_drewN ?_ _ | refine blk_drew ?_ | refine blk_alloc ?_ _)); exact BK573.out⟩, ⟨by (with_reducible repeat (first | refine blk_drewN ?_ _ | refine blk_drew ?_ | refine blk_alloc ?_ _)); refine blk_put (cs := #[.int .i64 t574, .int .i64 0]) ?_ 1 _ rfl; (with_reducible repeat (first | refine blk_drewN ?_ _ | refine blk_drew ?_ | refine blk_alloc ?_ _)); refine blk_put (cs := #[.int .i64 0, .int .i64 0]) ?_ 0 _ rfl; (with_reducible repeat (first | refine blk_drewN ?_ _ | refine blk_drew ?_ | refine blk_alloc ?_ _)); exact BK577.out⟩, ⟨by repeat (first | (with_reducible first | exact HB.out | apply below_alloc | apply pw_below_drewN | apply below_drew1 | refine below_set ?_ GE573.out | refine below_set ?_ GE577.out) | exact HB.out)⟩⟩
      case rest =>
        clear HC9
        try clear c1
        try clear p2
        try clear c3
        try clear c4
        try clear c6
        try clear c13
        try clear c16
        try clear c18
        try clear c18b0
        try clear c18b1
        try clear hcz13_0
        try clear hcz13_1
        try clear hcz17_0
        try clear hcz17_1
        try clear hfz13_0
        try clear hfz13_1
        try clear hfz17_0
        try clear hfz17_1
        obtain ⟨kq, x32_8, rfl, HA, HJ8, BK573, BK577, HB⟩ := hcut
        cases kq with
        | zero => exact absurd HA.out (by simp [crossbarlaw08_DialplanOverlapAgreesWithEnBloc.j0])
        | succ kj8 =>
          have H := HA.out
          clear HA
          simp only [crossbarlaw08_DialplanOverlapAgreesWithEnBloc.j0] at H
          by_cases c19 : x32_8 = true
          · subst c19
            have H1 : (if t572 = t576 then (if (t570 == 0 && (t571 == 0)) = true then (some (t574 == 0 && (t575 == 0))) else (some false)) else (some false)) = some r := by rw [if_pos rfl] at H; exact H
            clear H
            have H := H1
            clear H1
            by_cases c20 : t572 = t576
            · rw [if_pos c20] at H
              have c20b0 : (t572 == t576) = true := beq_iff_eq.mpr c20
              have c20b1 : (t572 != t576) = false := bne_eq_false_iff_eq.mpr c20
              clear c20
              by_cases c21 : (t570 == 0 && (t571 == 0)) = true
              · rw [if_pos c21] at H
                have c21b0 : (t570 == 0 && (t571 == 0)) = true := c21
                (try (have c21b1 : decide (t570 = 0 && (t571 == 0)) = true := by simpa using c21))
                (try (have c21b2 : (t570 == 0 && (t571 == 0)) = true := by simpa using c21))
                clear c21
                obtain rfl := Option.some.inj H
                have hnb22 := NB573_577.out
                have hnc22 := NB577_573.out
                have hcz23_0 : wc.cell? ⟨gb573, 0, none⟩ = some (.int .i64 t570) := (blk_cell BK573.out 0).trans rfl
                have hcz23_1 : wc.cell? ⟨gb573, 1, none⟩ = some (.int .i64 t571) := (blk_cell BK573.out 1).trans rfl
                have hfz23_0 := blk_frozen BK573.out 0
                have hfz23_1 := blk_frozen BK573.out 1
                have hcz24_0 : wc.cell? ⟨gb577, 0, none⟩ = some (.int .i64 t574) := (blk_cell BK577.out 0).trans rfl
                have hcz24_1 : wc.cell? ⟨gb577, 1, none⟩ = some (.int .i64 t575) := (blk_cell BK577.out 1).trans rfl
                have hfz24_0 := blk_frozen BK577.out 0
                have hfz24_1 := blk_frozen BK577.out 1
                go_wp2
                go_ret
                exact ⟨by first | rfl | (simp [errW_none, errW_some] <;> rfl) | (simp [*, errW_none, errW_some] <;> rfl), by repeat (first | (with_reducible first | exact HB.out | apply below_alloc | apply pw_below_drewN | apply below_drew1 | refine below_set ?_ GE573.out | refine below_set ?_ GE577.out) | exact HB.out)⟩
              · rw [if_neg c21] at H
                have c21b0 : (t570 == 0 && (t571 == 0)) = false := by simpa using c21
                (try (have c21b1 : decide (t570 = 0 && (t571 == 0)) = false := by simpa using c21))
                (try (have c21b2 : (t570 == 0 && (t571 == 0)) = false := by simpa using c21))
                (try (have c21b3 : ¬ (t570 = 0 && (t571 == 0)) := by simpa using c21))
                clear c21
                exact absurd ((Option.some.inj H).trans ht) (by decide)
            · rw [if_neg c20] at H
              have c20b0 : (t572 == t576) = false := beq_eq_false_iff_ne.mpr c20
              have c20b1 : (t572 != t576) = true := bne_iff_ne.mpr c20
              exact absurd ((Option.some.inj H).trans ht) (by decide)
          · replace c19 := Bool.eq_false_iff.mpr c19
            subst c19
            have H1 : (if t570 = 1 then (if t571 = t575 then (if t574 = 1 then (some false) else (if t574 = 2 then (some (t570 != 3)) else (some true))) else (some false)) else (if (!(t570 == t574) || (!(t571 == t575))) = true then (some false) else (if t571 = t575 then (if t574 = 1 then (some false) else (if t574 = 2 then (some (t570 != 3)) else (some true))) else (some false)))) = some r := by rw [if_neg (show ¬ (false = true) by decide)] at H; exact H
            clear H
            have H := H1
            clear H1
            by_cases c27 : t570 = 1
            · rw [if_pos c27] at H
              have c27b0 : (t570 == 1) = true := beq_iff_eq.mpr c27
              have c27b1 : (t570 != 1) = false := bne_eq_false_iff_eq.mpr c27
              clear c27
              by_cases c28 : t571 = t575
              · rw [if_pos c28] at H
                have c28b0 : (t571 == t575) = true := beq_iff_eq.mpr c28
                have c28b1 : (t571 != t575) = false := bne_eq_false_iff_eq.mpr c28
                clear c28
                by_cases c29 : t574 = 1
                · rw [if_pos c29] at H
                  have c29b0 : (t574 == 1) = true := beq_iff_eq.mpr c29
                  have c29b1 : (t574 != 1) = false := bne_eq_false_iff_eq.mpr c29
                  clear c29
                  exact absurd ((Option.some.inj H).trans ht) (by decide)
                · rw [if_neg c29] at H
                  have c29b0 : (t574 == 1) = false := beq_eq_false_iff_ne.mpr c29
                  have c29b1 : (t574 != 1) = true := bne_iff_ne.mpr c29
                  by_cases c33 : t574 = 2
                  · rw [if_pos c33] at H
                    have c33b0 : (t574 == 2) = true := beq_iff_eq.mpr c33
                    have c33b1 : (t574 != 2) = false := bne_eq_false_iff_eq.mpr c33
                    clear c33
                    obtain rfl := Option.some.inj H
                    have hnb34 := NB573_577.out
                    have hnc34 := NB577_573.out
                    have hcz35_0 : wc.cell? ⟨gb573, 0, none⟩ = some (.int .i64 t570) := (blk_cell BK573.out 0).trans rfl
                    have hcz35_1 : wc.cell? ⟨gb573, 1, none⟩ = some (.int .i64 t571) := (blk_cell BK573.out 1).trans rfl
                    have hfz35_0 := blk_frozen BK573.out 0
                    have hfz35_1 := blk_frozen BK573.out 1
                    have hcz36_0 : wc.cell? ⟨gb577, 0, none⟩ = some (.int .i64 t574) := (blk_cell BK577.out 0).trans rfl
                    have hcz36_1 : wc.cell? ⟨gb577, 1, none⟩ = some (.int .i64 t575) := (blk_cell BK577.out 1).trans rfl
                    have hfz36_0 := blk_frozen BK577.out 0
                    have hfz36_1 := blk_frozen BK577.out 1
                    go_wp2
                    go_ret
                    exact ⟨by first | rfl | (simp [errW_none, errW_some] <;> rfl) | (simp [*, errW_none, errW_some] <;> rfl), by repeat (first | (with_reducible first | exact HB.out | apply below_alloc | apply pw_below_drewN | apply below_drew1 | refine below_set ?_ GE573.out | refine below_set ?_ GE577.out) | exact HB.out)⟩
                  · rw [if_neg c33] at H
                    have c33b0 : (t574 == 2) = false := beq_eq_false_iff_ne.mpr c33
                    have c33b1 : (t574 != 2) = true := bne_iff_ne.mpr c33
                    obtain rfl := Option.some.inj H
                    have hnb37 := NB573_577.out
                    have hnc37 := NB577_573.out
                    have hcz38_0 : wc.cell? ⟨gb573, 0, none⟩ = some (.int .i64 t570) := (blk_cell BK573.out 0).trans rfl
                    have hcz38_1 : wc.cell? ⟨gb573, 1, none⟩ = some (.int .i64 t571) := (blk_cell BK573.out 1).trans rfl
                    have hfz38_0 := blk_frozen BK573.out 0
                    have hfz38_1 := blk_frozen BK573.out 1
                    have hcz39_0 : wc.cell? ⟨gb577, 0, none⟩ = some (.int .i64 t574) := (blk_cell BK577.out 0).trans rfl
                    have hcz39_1 : wc.cell? ⟨gb577, 1, none⟩ = some (.int .i64 t575) := (blk_cell BK577.out 1).trans rfl
                    have hfz39_0 := blk_frozen BK577.out 0
                    have hfz39_1 := blk_frozen BK577.out 1
                    go_wp2
                    go_ret
                    exact ⟨by first | rfl | (simp [errW_none, errW_some] <;> rfl) | (simp [*, errW_none, errW_some] <;> rfl), by repeat (first | (with_reducible first | exact HB.out | apply below_alloc | apply pw_below_drewN | apply below_drew1 | refine below_set ?_ GE573.out | refine below_set ?_ GE577.out) | exact HB.out)⟩
              · rw [if_neg c28] at H
                have c28b0 : (t571 == t575) = false := beq_eq_false_iff_ne.mpr c28
                have c28b1 : (t571 != t575) = true := bne_iff_ne.mpr c28
                exact absurd ((Option.some.inj H).trans ht) (by decide)
            · rw [if_neg c27] at H
              have c27b0 : (t570 == 1) = false := beq_eq_false_iff_ne.mpr c27
              have c27b1 : (t570 != 1) = true := bne_iff_ne.mpr c27
              by_cases c43 : (!(t570 == t574) || (!(t571 == t575))) = true
              · rw [if_pos c43] at H
                have c43b0 : (!(t570 == t574) || (!(t571 == t575))) = true := c43
                clear c43
                exact absurd ((Option.some.inj H).trans ht) (by decide)
              · rw [if_neg c43] at H
                have c43b0 : (!(t570 == t574) || (!(t571 == t575))) = false := by simpa using c43
                have c98a : (t570 == t574) = true := by cases h9 : (t570 == t574) with | true => rfl | false => rw [h9] at c43b0; cases c43b0
                have c98b : (t571 == t575) = true := by cases h9 : (t571 == t575) with | true => rfl | false => rw [h9, c98a] at c43b0; cases c43b0
                clear c43
                by_cases c47 : t571 = t575
                · rw [if_pos c47] at H
                  have c47b0 : (t571 == t575) = true := beq_iff_eq.mpr c47
                  have c47b1 : (t571 != t575) = false := bne_eq_false_iff_eq.mpr c47
                  clear c47
                  by_cases c48 : t574 = 1
                  · rw [if_pos c48] at H
                    have c48b0 : (t574 == 1) = true := beq_iff_eq.mpr c48
                    have c48b1 : (t574 != 1) = false := bne_eq_false_iff_eq.mpr c48
                    clear c48
                    exact absurd ((Option.some.inj H).trans ht) (by decide)
                  · rw [if_neg c48] at H
                    have c48b0 : (t574 == 1) = false := beq_eq_false_iff_ne.mpr c48
                    have c48b1 : (t574 != 1) = true := bne_iff_ne.mpr c48
                    by_cases c52 : t574 = 2
                    · rw [if_pos c52] at H
                      have c52b0 : (t574 == 2) = true := beq_iff_eq.mpr c52
                      have c52b1 : (t574 != 2) = false := bne_eq_false_iff_eq.mpr c52
                      clear c52
                      obtain rfl := Option.some.inj H
                      have hnb53 := NB573_577.out
                      have hnc53 := NB577_573.out
                      have hcz54_0 : wc.cell? ⟨gb573, 0, none⟩ = some (.int .i64 t570) := (blk_cell BK573.out 0).trans rfl
                      have hcz54_1 : wc.cell? ⟨gb573, 1, none⟩ = some (.int .i64 t571) := (blk_cell BK573.out 1).trans rfl
                      have hfz54_0 := blk_frozen BK573.out 0
                      have hfz54_1 := blk_frozen BK573.out 1
                      have hcz55_0 : wc.cell? ⟨gb577, 0, none⟩ = some (.int .i64 t574) := (blk_cell BK577.out 0).trans rfl
                      have hcz55_1 : wc.cell? ⟨gb577, 1, none⟩ = some (.int .i64 t575) := (blk_cell BK577.out 1).trans rfl
                      have hfz55_0 := blk_frozen BK577.out 0
                      have hfz55_1 := blk_frozen BK577.out 1
                      go_wp2
                      go_ret
                      exact ⟨by first | rfl | (simp [errW_none, errW_some] <;> rfl) | (simp [*, errW_none, errW_some] <;> rfl), by repeat (first | (with_reducible first | exact HB.out | apply below_alloc | apply pw_below_drewN | apply below_drew1 | refine below_set ?_ GE573.out | refine below_set ?_ GE577.out) | exact HB.out)⟩
                    · rw [if_neg c52] at H
                      have c52b0 : (t574 == 2) = false := beq_eq_false_iff_ne.mpr c52
                      have c52b1 : (t574 != 2) = true := bne_iff_ne.mpr c52
                      obtain rfl := Option.some.inj H
                      have hnb56 := NB573_577.out
                      have hnc56 := NB577_573.out
                      have hcz57_0 : wc.cell? ⟨gb573, 0, none⟩ = some (.int .i64 t570) := (blk_cell BK573.out 0).trans rfl
                      have hcz57_1 : wc.cell? ⟨gb573, 1, none⟩ = some (.int .i64 t571) := (blk_cell BK573.out 1).trans rfl
                      have hfz57_0 := blk_frozen BK573.out 0
                      have hfz57_1 := blk_frozen BK573.out 1
                      have hcz58_0 : wc.cell? ⟨gb577, 0, none⟩ = some (.int .i64 t574) := (blk_cell BK577.out 0).trans rfl
                      have hcz58_1 : wc.cell? ⟨gb577, 1, none⟩ = some (.int .i64 t575) := (blk_cell BK577.out 1).trans rfl
                      have hfz58_0 := blk_frozen BK577.out 0
                      have hfz58_1 := blk_frozen BK577.out 1
                      go_wp2
                      go_ret
                      exact ⟨by first | rfl | (simp [errW_none, errW_some] <;> rfl) | (simp [*, errW_none, errW_some] <;> rfl), by repeat (first | (with_reducible first | exact HB.out | apply below_alloc | apply pw_below_drewN | apply below_drew1 | refine below_set ?_ GE573.out | refine below_set ?_ GE577.out) | exact HB.out)⟩
                · rw [if_neg c47] at H
                  have c47b0 : (t571 == t575) = false := beq_eq_false_iff_ne.mpr c47
                  have c47b1 : (t571 != t575) = true := bne_iff_ne.mpr c47
                  exact absurd ((Option.some.inj H).trans ht) (by decide)
    · replace c6 := Bool.eq_false_iff.mpr c6
      subst c6
      have H1 : (some true) = some r := by rw [if_neg (show ¬ (false = true) by decide)] at H; exact H
      clear H
      have H := H1
      clear H1
      obtain rfl := Option.some.inj H
      go_enter Tryd.func13, Tryd.ntmps13
      go_wp2_with (first | ((with_reducible refine gate_callee (f := 40) rfl ?_); refine goesL_ (some 9) rfl rfl Tryd.func40 (by kernel_rfl) rfl #[] rfl (by (try simp only [List.map_toArray, List.map_cons, List.map_nil]); first | done | rfl | (simp only [List.length_drop, List.length_take]; rfl)) ?_; (with_reducible refine (crossbarlaw08_sane.calls  true _ A3.out).mono ?_); rintro e w62 ⟨rfl, hb⟩; refine ⟨_, rfl, ?_⟩; have n0_ := Aside0.mk (below_step (by repeat (first | (with_reducible first | exact HB.out | apply below_alloc | apply pw_below_drewN | apply below_drew1) | exact HB.out)) hb); clear HB; have HB := n0_; clear n0_; (try clear hb); (try clear hb2); (try clear hk); (try clear hi)) | ((with_reducible refine gate_callee (f := 41) rfl ?_); refine goesL_ (some 13) rfl rfl Tryd.func41 (by kernel_rfl) rfl #[.slice A0 l0.length c0, .string a1] rfl (by (try simp only [List.map_toArray, List.map_cons, List.map_nil]); first | done | rfl | (simp only [List.length_drop, List.length_take]; rfl)) ?_; (with_reducible refine (crossbarref08_Few.calls k _ _ l0 a1 false _ ?side1 ?side2 A5.out).mono ?_); (case side1 => repeat (first | exact (Kd.C_below HR0.out HB.out) | (with_reducible refine Kd.C_alloc ?_ _) | (with_reducible refine Kd.C_drewN ?_ _) | (with_reducible refine Kd.C_drew ?_))); (case side2 => exact HC0.out); rintro e w' ⟨rfl, ⟨nd, rfl⟩⟩; refine ⟨_, rfl, ?_⟩))
      go_ret
      exact ⟨by first | rfl | (simp [errW_none, errW_some] <;> rfl) | (simp [*, errW_none, errW_some] <;> rfl), by repeat (first | (with_reducible first | exact HB.out | apply below_alloc | apply pw_below_drewN | apply below_drew1) | exact HB.out)⟩
  · replace c4 := Bool.eq_false_iff.mpr c4
    subst c4
    have H1 : (some false) = some r := by rw [if_neg (show ¬ (false = true) by decide)] at H; exact H
    clear H
    have H := H1
    clear H1
    exact absurd ((Option.some.inj H).trans ht) (by decide)
end Go.Proofs.YtmendieiikmbhaaDoor.Fn
