-- printed by a program of this session, out of the translation; Lean checks it
import Derived.Test.YtmendieiikmbhaaDoorFn0
import Derived.Test.YtmendieiikmbhaaDoorFn2
import Derived.Test.YtmendieiikmbhaaDoorFn12x4
import Derived.Test.YtmendieiikmbhaaDoorEDial
import Derived.Test.YtmendieiikmbhaaDoorESaneD
namespace Go.Proofs.YtmendieiikmbhaaDoor.Fn
open Go.RowKit Go.Proofs.YtmendieiikmbhaaDoorW.PrintWords Go.Proofs.YtmendieiikmbhaaDoorW.PrintLast Go.Proofs.YtmendieiikmbhaaDoorW.PrintMore
attribute [local go_sem] max2_int min2_int max_two min_two max_three min_three max_four min_four   -- for this text's walks alone
set_option linter.unusedVariables false
set_option linter.unusedSimpArgs false

attribute [local go_sem high] eqA55
/-! ### crossbarlaw08_DialplanFeedStopsFirst: function 14 -/
mutual
noncomputable def crossbarlaw08_DialplanFeedStopsFirst.j0 : Nat → List (S61) → ByteArray → Int → Bool → Int → Int → Option (Bool)
  | 0, _, _, _, _, _, _ => none
  | k + 1, x0, x1, x5, x53, x585000, x585001 => if x53 = true then (some false) else (crossbarlaw08_DialplanFeedStopsFirst.l0 k x0 x1 x5 x5 0 x585000 x585001)
noncomputable def crossbarlaw08_DialplanFeedStopsFirst.l0 : Nat → List (S61) → ByteArray → Int → Int → Int → Int → Int → Option (Bool)
  | 0, _, _, _, _, _, _, _ => none
  | k + 1, x0, x1, x5, x54, x55, x585000, x585001 => if x55 < x54 then (if 0 ≤ x55 then (if x55 ≤ (x1.size : Int) then ((dialplan_Analyze.f k x0 (x1.extract 0 (x55 : Int).toNat) false).bind fun bt585 => (if bt585.2.2 = 0 then (if bt585.1 = 1 then (crossbarlaw08_DialplanFeedStopsFirst.l0 k x0 x1 x5 x54 (wrap64 (x55 + 1)) x585000 x585001) else (some false)) else (some false))) else (none)) else (none)) else (if 0 ≤ x5 then (if x5 ≤ (x1.size : Int) then ((dialplan_Analyze.f k x0 (x1.extract 0 (x5 : Int).toNat) false).bind fun bt589 => (if bt589.2.2 = 0 then (some (x585000 == bt589.1 && (x585001 == bt589.2.1))) else (some false))) else (none)) else (none))
end
noncomputable def crossbarlaw08_DialplanFeedStopsFirst.f (k : Nat) (l0 : List (S61)) (a1 : ByteArray) : Option (Bool) := (crossbarlaw08_sane.f).bind fun t578 => (if t578 = true then ((crossbarref08_Few.f k l0 a1).bind fun t579 => (if t579 = true then ((dialplan_Feed.f k l0 a1).bind fun bt580 => (if bt580.2.2.2 = 0 then (if bt580.1 < 0 then (crossbarlaw08_DialplanFeedStopsFirst.j0 k l0 a1 bt580.1 true bt580.2.1 bt580.2.2.1) else (if bt580.1 > (a1.size : Int) then (crossbarlaw08_DialplanFeedStopsFirst.j0 k l0 a1 bt580.1 true bt580.2.1 bt580.2.2.1) else (if bt580.1 < (a1.size : Int) then (crossbarlaw08_DialplanFeedStopsFirst.j0 k l0 a1 bt580.1 (bt580.2.1 == 1) bt580.2.1 bt580.2.2.1) else (crossbarlaw08_DialplanFeedStopsFirst.j0 k l0 a1 bt580.1 false bt580.2.1 bt580.2.2.1)))) else (if bt580.1 = 0 then (some (bt580.2.1 == 0 && (bt580.2.2.1 == 0))) else (some false)))) else (some true))) else (some false))
theorem crossbarlaw08_DialplanFeedStopsFirst.mono_l : ∀ k, (∀ y0 y1 y2 y3 y4 y5, LeO (crossbarlaw08_DialplanFeedStopsFirst.j0 k y0 y1 y2 y3 y4 y5) (crossbarlaw08_DialplanFeedStopsFirst.j0 (k + 1) y0 y1 y2 y3 y4 y5)) ∧ (∀ y0 y1 y2 y3 y4 y5 y6, LeO (crossbarlaw08_DialplanFeedStopsFirst.l0 k y0 y1 y2 y3 y4 y5 y6) (crossbarlaw08_DialplanFeedStopsFirst.l0 (k + 1) y0 y1 y2 y3 y4 y5 y6))
  | 0 => ⟨fun _ _ _ _ _ _ r h => by simp [crossbarlaw08_DialplanFeedStopsFirst.j0] at h, fun _ _ _ _ _ _ _ r h => by simp [crossbarlaw08_DialplanFeedStopsFirst.l0] at h⟩
  | k + 1 => by
    obtain ⟨ih0, ih1⟩ := crossbarlaw08_DialplanFeedStopsFirst.mono_l k
    refine ⟨?_, ?_⟩
    · intro y0 y1 y2 y3 y4 y5
      unfold crossbarlaw08_DialplanFeedStopsFirst.j0
      repeat' first
      | (with_reducible exact ih0 _ _ _ _ _ _)
      | (with_reducible exact ih1 _ _ _ _ _ _ _)
      | (with_reducible exact crossbarref08_Few.mono _ _ _)
      | (with_reducible exact dialplan_Analyze.mono _ _ _ _)
      | (with_reducible exact dialplan_Feed.mono _ _ _)
      | (with_reducible exact LeO.refl _)
      | (with_reducible exact LeO.none _)
      | (with_reducible refine LeO.ite ?_ ?_)
      | (with_reducible refine LeO.bind ?_ (fun _ => ?_))
      | exact ih0 _ _ _ _ _ _
      | exact ih1 _ _ _ _ _ _ _
      | exact crossbarref08_Few.mono _ _ _
      | exact dialplan_Analyze.mono _ _ _ _
      | exact dialplan_Feed.mono _ _ _
      | exact LeO.none _
      | refine LeO.ite ?_ ?_
      | refine LeO.bind ?_ (fun _ => ?_)
    · intro y0 y1 y2 y3 y4 y5 y6
      unfold crossbarlaw08_DialplanFeedStopsFirst.l0
      repeat' first
      | (with_reducible exact ih0 _ _ _ _ _ _)
      | (with_reducible exact ih1 _ _ _ _ _ _ _)
      | (with_reducible exact crossbarref08_Few.mono _ _ _)
      | (with_reducible exact dialplan_Analyze.mono _ _ _ _)
      | (with_reducible exact dialplan_Feed.mono _ _ _)
      | (with_reducible exact LeO.refl _)
      | (with_reducible exact LeO.none _)
      | (with_reducible refine LeO.ite ?_ ?_)
      | (with_reducible refine LeO.bind ?_ (fun _ => ?_))
      | exact ih0 _ _ _ _ _ _
      | exact ih1 _ _ _ _ _ _ _
      | exact crossbarref08_Few.mono _ _ _
      | exact dialplan_Analyze.mono _ _ _ _
      | exact dialplan_Feed.mono _ _ _
      | exact LeO.none _
      | refine LeO.ite ?_ ?_
      | refine LeO.bind ?_ (fun _ => ?_)
theorem crossbarlaw08_DialplanFeedStopsFirst.mono : ∀ a0 a1 k, LeO (crossbarlaw08_DialplanFeedStopsFirst.f k a0 a1) (crossbarlaw08_DialplanFeedStopsFirst.f (k + 1) a0 a1) := by
  intro a0 a1 k
  obtain ⟨ih0, ih1⟩ := crossbarlaw08_DialplanFeedStopsFirst.mono_l k
  unfold crossbarlaw08_DialplanFeedStopsFirst.f
  repeat' first
      | (with_reducible exact ih0 _ _ _ _ _ _)
      | (with_reducible exact ih1 _ _ _ _ _ _ _)
      | (with_reducible exact crossbarref08_Few.mono _ _ _)
      | (with_reducible exact dialplan_Analyze.mono _ _ _ _)
      | (with_reducible exact dialplan_Feed.mono _ _ _)
      | (with_reducible exact LeO.refl _)
      | (with_reducible exact LeO.none _)
      | (with_reducible refine LeO.ite ?_ ?_)
      | (with_reducible refine LeO.bind ?_ (fun _ => ?_))
      | exact ih0 _ _ _ _ _ _
      | exact ih1 _ _ _ _ _ _ _
      | exact crossbarref08_Few.mono _ _ _
      | exact dialplan_Analyze.mono _ _ _ _
      | exact dialplan_Feed.mono _ _ _
      | exact LeO.none _
      | refine LeO.ite ?_ ?_
      | refine LeO.bind ?_ (fun _ => ?_)
set_option maxHeartbeats 8000000 in
set_option maxRecDepth 100000 in
theorem crossbarlaw08_DialplanFeedStopsFirst.calls (k : Nat) (A0 : Option Addr) (c0 : Nat) (l0 : List (S61)) (a1 : ByteArray) (r : Bool) (ht : r = true) (w : World) (hr0 : Kd.C k61 w A0 l0.length l0) (hc0 : l0.length ≤ c0) (h : crossbarlaw08_DialplanFeedStopsFirst.f k l0 a1 = some r) :
    Calls Tryd.prog 14 #[.slice A0 l0.length c0, .string a1] w fun e w' => e = .returned (.bool r) ∧ Below w.heap.size w w' := by
  have hu55 := Tryd.underlying55
  have HR0 := Aside0.mk hr0
  have HC0 := Aside0.mk hc0
  clear hr0 hc0
  have HB := Aside0.mk (Below.refl w.heap.size w)
  have H : ((crossbarlaw08_sane.f).bind fun t578 => (if t578 = true then ((crossbarref08_Few.f k l0 a1).bind fun t579 => (if t579 = true then ((dialplan_Feed.f k l0 a1).bind fun bt580 => (if bt580.2.2.2 = 0 then (if bt580.1 < 0 then (crossbarlaw08_DialplanFeedStopsFirst.j0 k l0 a1 bt580.1 true bt580.2.1 bt580.2.2.1) else (if bt580.1 > (a1.size : Int) then (crossbarlaw08_DialplanFeedStopsFirst.j0 k l0 a1 bt580.1 true bt580.2.1 bt580.2.2.1) else (if bt580.1 < (a1.size : Int) then (crossbarlaw08_DialplanFeedStopsFirst.j0 k l0 a1 bt580.1 (bt580.2.1 == 1) bt580.2.1 bt580.2.2.1) else (crossbarlaw08_DialplanFeedStopsFirst.j0 k l0 a1 bt580.1 false bt580.2.1 bt580.2.2.1)))) else (if bt580.1 = 0 then (some (bt580.2.1 == 0 && (bt580.2.2.1 == 0))) else (some false)))) else (some true))) else (some false))) = some r := h
  clear h
  replace H := Option.bind_eq_some_iff.mp H
  obtain ⟨t578, A30, H⟩ := H
  replace H : (if t578 = true then ((crossbarref08_Few.f k l0 a1).bind fun t579 => (if t579 = true then ((dialplan_Feed.f k l0 a1).bind fun bt580 => (if bt580.2.2.2 = 0 then (if bt580.1 < 0 then (crossbarlaw08_DialplanFeedStopsFirst.j0 k l0 a1 bt580.1 true bt580.2.1 bt580.2.2.1) else (if bt580.1 > (a1.size : Int) then (crossbarlaw08_DialplanFeedStopsFirst.j0 k l0 a1 bt580.1 true bt580.2.1 bt580.2.2.1) else (if bt580.1 < (a1.size : Int) then (crossbarlaw08_DialplanFeedStopsFirst.j0 k l0 a1 bt580.1 (bt580.2.1 == 1) bt580.2.1 bt580.2.2.1) else (crossbarlaw08_DialplanFeedStopsFirst.j0 k l0 a1 bt580.1 false bt580.2.1 bt580.2.2.1)))) else (if bt580.1 = 0 then (some (bt580.2.1 == 0 && (bt580.2.2.1 == 0))) else (some false)))) else (some true))) else (some false)) = some r := H
  have A3 := Aside0.mk A30
  clear A30
  by_cases c4 : t578 = true
  · subst c4
    have H1 : ((crossbarref08_Few.f k l0 a1).bind fun t579 => (if t579 = true then ((dialplan_Feed.f k l0 a1).bind fun bt580 => (if bt580.2.2.2 = 0 then (if bt580.1 < 0 then (crossbarlaw08_DialplanFeedStopsFirst.j0 k l0 a1 bt580.1 true bt580.2.1 bt580.2.2.1) else (if bt580.1 > (a1.size : Int) then (crossbarlaw08_DialplanFeedStopsFirst.j0 k l0 a1 bt580.1 true bt580.2.1 bt580.2.2.1) else (if bt580.1 < (a1.size : Int) then (crossbarlaw08_DialplanFeedStopsFirst.j0 k l0 a1 bt580.1 (bt580.2.1 == 1) bt580.2.1 bt580.2.2.1) else (crossbarlaw08_DialplanFeedStopsFirst.j0 k l0 a1 bt580.1 false bt580.2.1 bt580.2.2.1)))) else (if bt580.1 = 0 then (some (bt580.2.1 == 0 && (bt580.2.2.1 == 0))) else (some false)))) else (some true))) = some r := by rw [if_pos rfl] at H; exact H
    clear H
    have H := H1
    clear H1
    replace H := Option.bind_eq_some_iff.mp H
    obtain ⟨t579, A50, H⟩ := H
    replace H : (if t579 = true then ((dialplan_Feed.f k l0 a1).bind fun bt580 => (if bt580.2.2.2 = 0 then (if bt580.1 < 0 then (crossbarlaw08_DialplanFeedStopsFirst.j0 k l0 a1 bt580.1 true bt580.2.1 bt580.2.2.1) else (if bt580.1 > (a1.size : Int) then (crossbarlaw08_DialplanFeedStopsFirst.j0 k l0 a1 bt580.1 true bt580.2.1 bt580.2.2.1) else (if bt580.1 < (a1.size : Int) then (crossbarlaw08_DialplanFeedStopsFirst.j0 k l0 a1 bt580.1 (bt580.2.1 == 1) bt580.2.1 bt580.2.2.1) else (crossbarlaw08_DialplanFeedStopsFirst.j0 k l0 a1 bt580.1 false bt580.2.1 bt580.2.2.1)))) else (if bt580.1 = 0 then (some (bt580.2.1 == 0 && (bt580.2.2.1 == 0))) else (some false)))) else (some true)) = some r := H
    have A5 := Aside0.mk A50
    clear A50
    by_cases c6 : t579 = true
    · subst c6
      have H1 : ((dialplan_Feed.f k l0 a1).bind fun bt580 => (if bt580.2.2.2 = 0 then (if bt580.1 < 0 then (crossbarlaw08_DialplanFeedStopsFirst.j0 k l0 a1 bt580.1 true bt580.2.1 bt580.2.2.1) else (if bt580.1 > (a1.size : Int) then (crossbarlaw08_DialplanFeedStopsFirst.j0 k l0 a1 bt580.1 true bt580.2.1 bt580.2.2.1) else (if bt580.1 < (a1.size : Int) then (crossbarlaw08_DialplanFeedStopsFirst.j0 k l0 a1 bt580.1 (bt580.2.1 == 1) bt580.2.1 bt580.2.2.1) else (crossbarlaw08_DialplanFeedStopsFirst.j0 k l0 a1 bt580.1 false bt580.2.1 bt580.2.2.1)))) else (if bt580.1 = 0 then (some (bt580.2.1 == 0 && (bt580.2.2.1 == 0))) else (some false)))) = some r := by rw [if_pos rfl] at H; exact H
      clear H
      have H := H1
      clear H1
      replace H := Option.bind_eq_some_iff.mp H
      obtain ⟨⟨t580, t581, t582, t583⟩, A70, H⟩ := H
      replace H : (if t583 = 0 then (if t580 < 0 then (crossbarlaw08_DialplanFeedStopsFirst.j0 k l0 a1 t580 true t581 t582) else (if t580 > (a1.size : Int) then (crossbarlaw08_DialplanFeedStopsFirst.j0 k l0 a1 t580 true t581 t582) else (if t580 < (a1.size : Int) then (crossbarlaw08_DialplanFeedStopsFirst.j0 k l0 a1 t580 (t581 == 1) t581 t582) else (crossbarlaw08_DialplanFeedStopsFirst.j0 k l0 a1 t580 false t581 t582)))) else (if t580 = 0 then (some (t581 == 0 && (t582 == 0))) else (some false))) = some r := H
      have A7 := Aside0.mk A70
      clear A70
      by_cases c8 : t583 = 0
      · rw [if_pos c8] at H
        have c8b0 : (t583 == 0) = true := beq_iff_eq.mpr c8
        have c8b1 : (t583 != 0) = false := bne_eq_false_iff_eq.mpr c8
        clear c8
        have HC9 := Aside0.mk H
        clear H
        go_enter Tryd.func14, Tryd.ntmps14
        go_upto_region 8 with (first | ((with_reducible refine gate_callee (f := 40) rfl ?_); refine goesL_ (some 13) rfl rfl Tryd.func40 (by kernel_rfl) rfl #[] rfl (by (try simp only [List.map_toArray, List.map_cons, List.map_nil]); first | done | rfl | (simp only [List.length_drop, List.length_take]; rfl)) ?_; (with_reducible refine (crossbarlaw08_sane.calls  true _ A3.out).mono ?_); rintro e w10 ⟨rfl, hb⟩; refine ⟨_, rfl, ?_⟩; have n0_ := Aside0.mk (below_step (by repeat (first | (with_reducible first | exact HB.out | apply below_alloc | apply pw_below_drewN | apply below_drew1) | exact HB.out)) hb); clear HB; have HB := n0_; clear n0_; (try clear hb); (try clear hb2); (try clear hk); (try clear hi)) | ((with_reducible refine gate_callee (f := 41) rfl ?_); refine goesL_ (some 17) rfl rfl Tryd.func41 (by kernel_rfl) rfl #[.slice A0 l0.length c0, .string a1] rfl (by (try simp only [List.map_toArray, List.map_cons, List.map_nil]); first | done | rfl | (simp only [List.length_drop, List.length_take]; rfl)) ?_; (with_reducible refine (crossbarref08_Few.calls k _ _ l0 a1 true _ ?side1 ?side2 A5.out).mono ?_); (case side1 => repeat (first | exact (Kd.C_below HR0.out HB.out) | (with_reducible refine Kd.C_alloc ?_ _) | (with_reducible refine Kd.C_drewN ?_ _) | (with_reducible refine Kd.C_drew ?_))); (case side2 => exact HC0.out); rintro e w' ⟨rfl, ⟨nd, rfl⟩⟩; refine ⟨_, rfl, ?_⟩; (try (rw [drewN_self w10]; generalize hq_ : World.drewN w10 _ = w10; have n0_ : Aside0 (Below w.heap.size w w10) := ⟨by rw [← hq_]; exact (by repeat (first | (with_reducible first | exact HB.out | apply below_alloc | apply pw_below_drewN | apply below_drew1) | exact HB.out))⟩; clear HB hq_; have HB := n0_; clear n0_))) | ((with_reducible refine gate_callee (f := 44) rfl ?_); refine goesL_ (some 22) rfl rfl Tryd.func44 (by kernel_rfl) rfl #[.slice A0 l0.length c0, .string a1] rfl (by (try simp only [List.map_toArray, List.map_cons, List.map_nil]); first | done | rfl | (simp only [List.length_drop, List.length_take]; rfl)) ?_; (with_reducible refine (dialplan_Feed.calls k _ _ l0 a1 t580 t581 t582 t583 _ ?side1 ?side2 A7.out).mono ?_); (case side1 => repeat (first | exact (Kd.C_below HR0.out HB.out) | (with_reducible refine Kd.C_alloc ?_ _) | (with_reducible refine Kd.C_drewN ?_ _) | (with_reducible refine Kd.C_drew ?_))); (case side2 => exact HC0.out); rintro e w11 ⟨rfl, hb⟩; refine ⟨_, rfl, ?_⟩; have n0_ := Aside0.mk (below_step (by repeat (first | (with_reducible first | exact HB.out | apply below_alloc | apply pw_below_drewN | apply below_drew1) | exact HB.out)) hb); clear HB; have HB := n0_; clear n0_; (try clear hb); (try clear hb2); (try clear hk); (try clear hi)) | ((with_reducible refine gate_dst (N := 6) rfl ?_); (try (refine gate_guard (by rfl) ?_; dsimp only)); refine box_event ?hg (N := 6) ?hd (cs := #[.int .i64 0, .int .i64 0]) (t := 55) ?hr ?_; (case hd => rfl); (case hg => rfl); (case hr => first | (go_simp; done) | (go_simp; rfl)); intro gb584 hg w12 hbox hb; have n0_ := Aside0.mk (below_step (by repeat (first | (with_reducible first | exact HB.out | apply below_alloc | apply pw_below_drewN | apply below_drew1) | exact HB.out)) hb); have n1_ := Aside0.mk (hbox); have n2_ := Aside0.mk ((by rw [hg]; exact (below_size (by repeat (first | (with_reducible first | exact HB.out | apply below_alloc | apply pw_below_drewN | apply below_drew1) | exact HB.out))) : w.heap.size ≤ gb584)); have n3_ := Aside0.mk ((by rw [hg]; exact (below_size (by repeat (first | (with_reducible first | exact HB.out | apply below_alloc | apply pw_below_drewN | apply below_drew1) | exact HB.out))) : w.heap.size ≤ gb584)); clear HB; have HB := n0_; have BK584 := n1_; have GW584 := n2_; have GE584 := n3_; clear n0_ n1_ n2_ n3_; clear hb hbox hg; have hcz13_0 : w12.cell? ⟨gb584, 0, none⟩ = some (.int .i64 0) := (blk_cell BK584.out 0).trans rfl; have hcz13_1 : w12.cell? ⟨gb584, 1, none⟩ = some (.int .i64 0) := (blk_cell BK584.out 1).trans rfl; have hfz13_0 := blk_frozen BK584.out 0; have hfz13_1 := blk_frozen BK584.out 1))
        (try simp only [Act.put, List.setIfInBounds_toArray, List.set_cons_zero, List.set_cons_succ])
        go_cut [53] (fun v53 wc => ∃ (kq : Nat) (x53_8 : Bool), v53 = .bool x53_8 ∧ Aside0 (crossbarlaw08_DialplanFeedStopsFirst.j0 kq l0 a1 t580 x53_8 t581 t582 = some r) ∧ Aside0 (kq ≤ k) ∧ Aside0 (wc.heap[gb584]? = some (.cells #[.int .i64 t581, .int .i64 t582] 55 (0, 0))) ∧ Aside0 (Below w.heap.size w wc))
        case first =>
          have H := HC9.out
          clear HC9
          by_cases c14 : t580 < 0
          · rw [if_pos c14] at H
            have c14b0 : decide (t580 < 0) = true := decide_eq_true c14
            clear c14
            (first | rw [c14b0] | (simp only [i64_w, i32_w]; rw [c14b0]) | skip)
            have H' := Aside0.mk H
            clear H
            go_wp2
            go_meet
            case rel => exact ⟨_, (true), (by first | rfl | (simp; done) | (simp [*]; done)), H', ⟨by first | omega | exact Nat.le_refl _⟩, ⟨by (with_reducible repeat (first | refine blk_drewN ?_ _ | refine blk_drew ?_ | refine blk_alloc ?_ _)); refine blk_put (cs := #[.int .i64 t581, .int .i64 0]) ?_ 1 _ rfl; (with_reducible repeat (first | refine blk_drewN ?_ _ | refine blk_drew ?_ | refine blk_alloc ?_ _)); refine blk_put (cs := #[.int .i64 0, .int .i64 0]) ?_ 0 _ rfl; (with_reducible repeat (first | refine blk_drewN ?_ _ | refine blk_drew ?_ | refine blk_alloc ?_ _)); exact BK584.out⟩, ⟨by repeat (first | (with_reducible first | exact HB.out | apply below_alloc | apply pw_below_drewN | apply below_drew1 | refine below_set ?_ GE584.out) | exact HB.out)⟩⟩
          · rw [if_neg c14] at H
            have c14b0 : decide (t580 < 0) = false := decide_eq_false c14
            clear c14
            (first | rw [c14b0] | (simp only [i64_w, i32_w]; rw [c14b0]) | skip)
            by_cases c15 : t580 > (a1.size : Int)
            · rw [if_pos c15] at H
              have c15b0 : decide ((a1.size : Int) < t580) = true := decide_eq_true c15
              clear c15
              have H' := Aside0.mk H
              clear H
              go_wp2
              go_meet
              case rel => exact ⟨_, (true), (by first | rfl | (simp; done) | (simp [*]; done)), H', ⟨by first | omega | exact Nat.le_refl _⟩, ⟨by (with_reducible repeat (first | refine blk_drewN ?_ _ | refine blk_drew ?_ | refine blk_alloc ?_ _)); refine blk_put (cs := #[.int .i64 t581, .int .i64 0]) ?_ 1 _ rfl; (with_reducible repeat (first | refine blk_drewN ?_ _ | refine blk_drew ?_ | refine blk_alloc ?_ _)); refine blk_put (cs := #[.int .i64 0, .int .i64 0]) ?_ 0 _ rfl; (with_reducible repeat (first | refine blk_drewN ?_ _ | refine blk_drew ?_ | refine blk_alloc ?_ _)); exact BK584.out⟩, ⟨by repeat (first | (with_reducible first | exact HB.out | apply below_alloc | apply pw_below_drewN | apply below_drew1 | refine below_set ?_ GE584.out) | exact HB.out)⟩⟩
            · rw [if_neg c15] at H
              have c15b0 : decide ((a1.size : Int) < t580) = false := decide_eq_false c15
              clear c15
              by_cases c16 : t580 < (a1.size : Int)
              · rw [if_pos c16] at H
                have c16b0 : decide (t580 < (a1.size : Int)) = true := decide_eq_true c16
                clear c16
                have H' := Aside0.mk H
                clear H
                have hcz17_0 : w12.cell? ⟨gb584, 0, none⟩ = some (.int .i64 0) := (blk_cell BK584.out 0).trans rfl
                have hcz17_1 : w12.cell? ⟨gb584, 1, none⟩ = some (.int .i64 0) := (blk_cell BK584.out 1).trans rfl
                have hfz17_0 := blk_frozen BK584.out 0
                have hfz17_1 := blk_frozen BK584.out 1
                go_wp2
                go_meet
                case rel => exact ⟨_, ((t581 == 1)), (by first | rfl | (simp; done) | (simp [*]; done)), H', ⟨by first | omega | exact Nat.le_refl _⟩, ⟨by (with_reducible repeat (first | refine blk_drewN ?_ _ | refine blk_drew ?_ | refine blk_alloc ?_ _)); refine blk_put (cs := #[.int .i64 t581, .int .i64 0]) ?_ 1 _ rfl; (with_reducible repeat (first | refine blk_drewN ?_ _ | refine blk_drew ?_ | refine blk_alloc ?_ _)); refine blk_put (cs := #[.int .i64 0, .int .i64 0]) ?_ 0 _ rfl; (with_reducible repeat (first | refine blk_drewN ?_ _ | refine blk_drew ?_ | refine blk_alloc ?_ _)); exact BK584.out⟩, ⟨by repeat (first | (with_reducible first | exact HB.out | apply below_alloc | apply pw_below_drewN | apply below_drew1 | refine below_set ?_ GE584.out) | exact HB.out)⟩⟩
              · rw [if_neg c16] at H
                have c16b0 : decide (t580 < (a1.size : Int)) = false := decide_eq_false c16
                clear c16
                have H' := Aside0.mk H
                clear H
                go_wp2
                go_meet
                case rel => exact ⟨_, (false), (by first | rfl | (simp; done) | (simp [*]; done)), H', ⟨by first | omega | exact Nat.le_refl _⟩, ⟨by (with_reducible repeat (first | refine blk_drewN ?_ _ | refine blk_drew ?_ | refine blk_alloc ?_ _)); refine blk_put (cs := #[.int .i64 t581, .int .i64 0]) ?_ 1 _ rfl; (with_reducible repeat (first | refine blk_drewN ?_ _ | refine blk_drew ?_ | refine blk_alloc ?_ _)); refine blk_put (cs := #[.int .i64 0, .int .i64 0]) ?_ 0 _ rfl; (with_reducible repeat (first | refine blk_drewN ?_ _ | refine blk_drew ?_ | refine blk_alloc ?_ _)); exact BK584.out⟩, ⟨by repeat (first | (with_reducible first | exact HB.out | apply below_alloc | apply pw_below_drewN | apply below_drew1 | refine below_set ?_ GE584.out) | exact HB.out)⟩⟩
        case rest =>
          clear HC9
          try clear c1
          try clear p2
          try clear c4
          try clear c6
          try clear c8
          try clear c8b0
          try clear c8b1
          try clear c14
          try clear c14b0
          try clear c15
          try clear c15b0
          try clear c16
          try clear c16b0
          try clear hcz13_0
          try clear hcz13_1
          try clear hcz17_0
          try clear hcz17_1
          try clear hfz13_0
          try clear hfz13_1
          try clear hfz17_0
          try clear hfz17_1
          obtain ⟨kq, x53_8, rfl, HA, HJ8, BK584, HB⟩ := hcut
          cases kq with
          | zero => exact absurd HA.out (by simp [crossbarlaw08_DialplanFeedStopsFirst.j0])
          | succ kj8 =>
            have H := HA.out
            clear HA
            simp only [crossbarlaw08_DialplanFeedStopsFirst.j0] at H
            by_cases c18 : x53_8 = true
            · subst c18
              have H1 : (some false) = some r := by rw [if_pos rfl] at H; exact H
              clear H
              have H := H1
              clear H1
              exact absurd ((Option.some.inj H).trans ht) (by decide)
            · replace c18 := Bool.eq_false_iff.mpr c18
              subst c18
              have H1 : (crossbarlaw08_DialplanFeedStopsFirst.l0 kj8 l0 a1 t580 t580 0 t581 t582) = some r := by rw [if_neg (show ¬ (false = true) by decide)] at H; exact H
              clear H
              have H := H1
              clear H1
              have H' := Aside0.mk H
              clear H
              go_wp2
              go_loopg [55] kj8 (fun kq v55 w' => ∃ (x55_2 : Int), v55 = .int .i64 x55_2 ∧ Aside0 (crossbarlaw08_DialplanFeedStopsFirst.l0 kq l0 a1 t580 t580 x55_2 t581 t582 = some r) ∧ Aside0 (kq ≤ kj8) ∧ Aside0 (w'.heap[gb584]? = some (.cells #[.int .i64 t581, .int .i64 t582] 55 (0, 0))) ∧ Aside0 (Below w.heap.size w w'))
              case atStart => exact ⟨(0), (by first | rfl | (simp; done) | (simp [*]; done)), H', ⟨Nat.le_refl _⟩, ⟨by (with_reducible repeat (first | refine blk_drewN ?_ _ | refine blk_drew ?_ | refine blk_alloc ?_ _)); exact BK584.out⟩, ⟨by repeat (first | (with_reducible first | exact HB.out | apply below_alloc | apply pw_below_drewN | apply below_drew1 | refine below_set ?_ GE584.out) | exact HB.out)⟩⟩
              case round =>
                clear H'
                try clear c1
                try clear p2
                try clear c4
                try clear c6
                try clear c8
                try clear c8b0
                try clear c8b1
                try clear c14
                try clear c14b0
                try clear c15
                try clear c15b0
                try clear c16
                try clear c16b0
                try clear c18
                try clear hcz13_0
                try clear hcz13_1
                try clear hcz17_0
                try clear hcz17_1
                try clear hfz13_0
                try clear hfz13_1
                try clear hfz17_0
                try clear hfz17_1
                try clear p2
                obtain ⟨x55_2, rfl, HA, HK2, BK584, HB⟩ := hrel
                cases gk with
                | zero => exact absurd HA.out (by simp [crossbarlaw08_DialplanFeedStopsFirst.l0])
                | succ k2 =>
                  have H := HA.out
                  clear HA
                  simp only [crossbarlaw08_DialplanFeedStopsFirst.l0] at H
                  by_cases c19 : x55_2 < t580
                  · rw [if_pos c19] at H
                    have c19b0 : decide (x55_2 < t580) = true := decide_eq_true c19
                    clear c19
                    by_cases c20 : 0 ≤ x55_2
                    · rw [if_pos c20] at H
                      have c20b0 := eq_true c20
                      have c20b1 : decide (0 ≤ x55_2) = true := decide_eq_true c20
                      clear c20
                      by_cases c21 : x55_2 ≤ (a1.size : Int)
                      · rw [if_pos c21] at H
                        have c21b0 := eq_true c21
                        have c21b1 : decide (x55_2 ≤ (a1.size : Int)) = true := decide_eq_true c21
                        clear c21
                        replace H := Option.bind_eq_some_iff.mp H
                        obtain ⟨⟨t585, t586, t587⟩, A220, H⟩ := H
                        replace H : (if t587 = 0 then (if t585 = 1 then (crossbarlaw08_DialplanFeedStopsFirst.l0 k2 l0 a1 t580 t580 (wrap64 (x55_2 + 1)) t581 t582) else (some false)) else (some false)) = some r := H
                        have A22 := Aside0.mk A220
                        clear A220
                        by_cases c23 : t587 = 0
                        · rw [if_pos c23] at H
                          have c23b0 : (t587 == 0) = true := beq_iff_eq.mpr c23
                          have c23b1 : (t587 != 0) = false := bne_eq_false_iff_eq.mpr c23
                          clear c23
                          by_cases c24 : t585 = 1
                          · rw [if_pos c24] at H
                            have c24b0 : (t585 == 1) = true := beq_iff_eq.mpr c24
                            have c24b1 : (t585 != 1) = false := bne_eq_false_iff_eq.mpr c24
                            clear c24
                            have H' := Aside0.mk H
                            clear H
                            go_wp2_with (first | ((with_reducible refine gate_callee (f := 38) rfl ?_); refine goesL_ (some 63) rfl rfl Tryd.func38 (by kernel_rfl) rfl #[.slice A0 l0.length c0, .string (a1.extract 0 (x55_2 : Int).toNat), .bool false] rfl (by (try simp only [List.map_toArray, List.map_cons, List.map_nil]); first | done | rfl | (simp only [List.length_drop, List.length_take]; rfl)) ?_; (with_reducible refine (dialplan_Analyze.calls k2 _ _ l0 (a1.extract 0 (x55_2 : Int).toNat) false t585 t586 t587 _ ?side1 ?side2 A22.out).mono ?_); (case side1 => repeat (first | exact (Kd.C_below HR0.out HB.out) | (with_reducible refine Kd.C_alloc ?_ _) | (with_reducible refine Kd.C_drewN ?_ _) | (with_reducible refine Kd.C_drew ?_))); (case side2 => exact HC0.out); rintro e w25 ⟨rfl, hb⟩; refine ⟨_, rfl, ?_⟩; have n0_ := Aside0.mk (blk_below (g := gb584) (o := .cells #[.int .i64 t581, .int .i64 t582] 55 (0, 0)) (by (with_reducible repeat (first | refine blk_drewN ?_ _ | refine blk_drew ?_ | refine blk_alloc ?_ _)); exact BK584.out) hb); have n1_ := Aside0.mk (below_step (by repeat (first | (with_reducible first | exact HB.out | apply below_alloc | apply pw_below_drewN | apply below_drew1 | refine below_set ?_ GE584.out) | exact HB.out)) hb); clear BK584; clear HB; have BK584 := n0_; have HB := n1_; clear n0_ n1_; (try clear hb); (try clear hb2); (try clear hk); (try clear hi)) | ((with_reducible refine gate_dst (N := 9) rfl ?_); (try (refine gate_guard (by rfl) ?_; dsimp only)); refine box_event ?hg (N := 9) ?hd (cs := #[.int .i64 0, .int .i64 0]) (t := 55) ?hr ?_; (case hd => rfl); (case hg => rfl); (case hr => first | (go_simp; done) | (go_simp; rfl)); intro gb588 hg w26 hbox hb; have n0_ := Aside0.mk (blk_below (g := gb584) (o := .cells #[.int .i64 t581, .int .i64 t582] 55 (0, 0)) (by (with_reducible repeat (first | refine blk_drewN ?_ _ | refine blk_drew ?_ | refine blk_alloc ?_ _)); exact BK584.out) hb); have n1_ := Aside0.mk (below_step (by repeat (first | (with_reducible first | exact HB.out | apply below_alloc | apply pw_below_drewN | apply below_drew1 | refine below_set ?_ GE584.out) | exact HB.out)) hb); have n2_ := Aside0.mk (hbox); have n3_ := Aside0.mk ((by rw [hg]; exact (below_size (by repeat (first | (with_reducible first | exact HB.out | apply below_alloc | apply pw_below_drewN | apply below_drew1 | refine below_set ?_ GE584.out) | exact HB.out))) : w.heap.size ≤ gb588)); have n4_ := Aside0.mk ((by rw [hg]; exact (below_size (by repeat (first | (with_reducible first | exact HB.out | apply below_alloc | apply pw_below_drewN | apply below_drew1 | refine below_set ?_ GE584.out) | exact HB.out))) : w.heap.size ≤ gb588)); have n5_ := Aside0.mk ((by rw [hg]; exact Nat.ne_of_lt (blk_lt (g := gb584) (o := .cells #[.int .i64 t581, .int .i64 t582] 55 (0, 0)) (by (with_reducible repeat (first | refine blk_drewN ?_ _ | refine blk_drew ?_ | refine blk_alloc ?_ _)); exact BK584.out)) : gb584 ≠ gb588)); have n6_ := Aside0.mk ((by rw [hg]; exact Nat.ne_of_gt (blk_lt (g := gb584) (o := .cells #[.int .i64 t581, .int .i64 t582] 55 (0, 0)) (by (with_reducible repeat (first | refine blk_drewN ?_ _ | refine blk_drew ?_ | refine blk_alloc ?_ _)); exact BK584.out)) : gb588 ≠ gb584)); clear BK584; clear HB; have BK584 := n0_; have HB := n1_; have BK588 := n2_; have GW588 := n3_; have GE588 := n4_; have NB584_588 := n5_; have NB588_584 := n6_; clear n0_ n1_ n2_ n3_ n4_ n5_ n6_; clear hb hbox hg; have hnb27 := NB588_584.out; have hnc27 := NB584_588.out; have hcz28_0 : w26.cell? ⟨gb588, 0, none⟩ = some (.int .i64 0) := (blk_cell BK588.out 0).trans rfl; have hcz28_1 : w26.cell? ⟨gb588, 1, none⟩ = some (.int .i64 0) := (blk_cell BK588.out 1).trans rfl; have hfz28_0 := blk_frozen BK588.out 0; have hfz28_1 := blk_frozen BK588.out 1))
                            go_roundg k2
                            case measure => have := HJ8.out; have := HK2.out; omega
                            case rel => exact ⟨(wrap64 (x55_2 + 1)), (by first | rfl | (simp; done) | (simp [*]; done)), H', ⟨by have := HJ8.out; have := HK2.out; omega⟩, ⟨by (with_reducible repeat (first | refine blk_drewN ?_ _ | refine blk_drew ?_ | refine blk_alloc ?_ _)); refine blk_far ?_ NB584_588.out _; (with_reducible repeat (first | refine blk_drewN ?_ _ | refine blk_drew ?_ | refine blk_alloc ?_ _)); refine blk_far ?_ NB584_588.out _; (with_reducible repeat (first | refine blk_drewN ?_ _ | refine blk_drew ?_ | refine blk_alloc ?_ _)); exact BK584.out⟩, ⟨by repeat (first | (with_reducible first | exact HB.out | apply below_alloc | apply pw_below_drewN | apply below_drew1 | refine below_set ?_ GE584.out | refine below_set ?_ GE588.out) | exact HB.out)⟩⟩
                          · rw [if_neg c24] at H
                            have c24b0 : (t585 == 1) = false := beq_eq_false_iff_ne.mpr c24
                            have c24b1 : (t585 != 1) = true := bne_iff_ne.mpr c24
                            exact absurd ((Option.some.inj H).trans ht) (by decide)
                        · rw [if_neg c23] at H
                          have c23b0 : (t587 == 0) = false := beq_eq_false_iff_ne.mpr c23
                          have c23b1 : (t587 != 0) = true := bne_iff_ne.mpr c23
                          exact absurd ((Option.some.inj H).trans ht) (by decide)
                      · rw [if_neg c21] at H
                        exact absurd H (by simp)
                    · rw [if_neg c20] at H
                      exact absurd H (by simp)
                  · rw [if_neg c19] at H
                    have c19b0 : decide (x55_2 < t580) = false := decide_eq_false c19
                    clear c19
                    by_cases c37 : 0 ≤ t580
                    · rw [if_pos c37] at H
                      have c37b0 := eq_true c37
                      have c37b1 : decide (0 ≤ t580) = true := decide_eq_true c37
                      clear c37
                      by_cases c38 : t580 ≤ (a1.size : Int)
                      · rw [if_pos c38] at H
                        have c38b0 := eq_true c38
                        have c38b1 : decide (t580 ≤ (a1.size : Int)) = true := decide_eq_true c38
                        clear c38
                        replace H := Option.bind_eq_some_iff.mp H
                        obtain ⟨⟨t589, t590, t591⟩, A390, H⟩ := H
                        replace H : (if t591 = 0 then (some (t581 == t589 && (t582 == t590))) else (some false)) = some r := H
                        have A39 := Aside0.mk A390
                        clear A390
                        by_cases c40 : t591 = 0
                        · rw [if_pos c40] at H
                          have c40b0 : (t591 == 0) = true := beq_iff_eq.mpr c40
                          have c40b1 : (t591 != 0) = false := bne_eq_false_iff_eq.mpr c40
                          clear c40
                          obtain rfl := Option.some.inj H
                          go_wp2_with (first | ((with_reducible refine gate_callee (f := 38) rfl ?_); refine goesL_ (some 79) rfl rfl Tryd.func38 (by kernel_rfl) rfl #[.slice A0 l0.length c0, .string (a1.extract 0 (t580 : Int).toNat), .bool false] rfl (by (try simp only [List.map_toArray, List.map_cons, List.map_nil]); first | done | rfl | (simp only [List.length_drop, List.length_take]; rfl)) ?_; (with_reducible refine (dialplan_Analyze.calls k2 _ _ l0 (a1.extract 0 (t580 : Int).toNat) false t589 t590 t591 _ ?side1 ?side2 A39.out).mono ?_); (case side1 => repeat (first | exact (Kd.C_below HR0.out HB.out) | (with_reducible refine Kd.C_alloc ?_ _) | (with_reducible refine Kd.C_drewN ?_ _) | (with_reducible refine Kd.C_drew ?_))); (case side2 => exact HC0.out); rintro e w41 ⟨rfl, hb⟩; refine ⟨_, rfl, ?_⟩; have n0_ := Aside0.mk (blk_below (g := gb584) (o := .cells #[.int .i64 t581, .int .i64 t582] 55 (0, 0)) (by (with_reducible repeat (first | refine blk_drewN ?_ _ | refine blk_drew ?_ | refine blk_alloc ?_ _)); exact BK584.out) hb); have n1_ := Aside0.mk (below_step (by repeat (first | (with_reducible first | exact HB.out | apply below_alloc | apply pw_below_drewN | apply below_drew1 | refine below_set ?_ GE584.out) | exact HB.out)) hb); clear BK584; clear HB; have BK584 := n0_; have HB := n1_; clear n0_ n1_; (try clear hb); (try clear hb2); (try clear hk); (try clear hi)) | ((with_reducible refine gate_dst (N := 11) rfl ?_); (try (refine gate_guard (by rfl) ?_; dsimp only)); refine box_event ?hg (N := 11) ?hd (cs := #[.int .i64 0, .int .i64 0]) (t := 55) ?hr ?_; (case hd => rfl); (case hg => rfl); (case hr => first | (go_simp; done) | (go_simp; rfl)); intro gb592 hg w42 hbox hb; have n0_ := Aside0.mk (blk_below (g := gb584) (o := .cells #[.int .i64 t581, .int .i64 t582] 55 (0, 0)) (by (with_reducible repeat (first | refine blk_drewN ?_ _ | refine blk_drew ?_ | refine blk_alloc ?_ _)); exact BK584.out) hb); have n1_ := Aside0.mk (below_step (by repeat (first | (with_reducible first | exact HB.out | apply below_alloc | apply pw_below_drewN | apply below_drew1 | refine below_set ?_ GE584.out) | exact HB.out)) hb); have n2_ := Aside0.mk (hbox); have n3_ := Aside0.mk ((by rw [hg]; exact (below_size (by repeat (first | (with_reducible first | exact HB.out | apply below_alloc | apply pw_below_drewN | apply below_drew1 | refine below_set ?_ GE584.out) | exact HB.out))) : w.heap.size ≤ gb592)); have n4_ := Aside0.mk ((by rw [hg]; exact (below_size (by repeat (first | (with_reducible first | exact HB.out | apply below_alloc | apply pw_below_drewN | apply below_drew1 | refine below_set ?_ GE584.out) | exact HB.out))) : w.heap.size ≤ gb592)); have n5_ := Aside0.mk ((by rw [hg]; exact Nat.ne_of_lt (blk_lt (g := gb584) (o := .cells #[.int .i64 t581, .int .i64 t582] 55 (0, 0)) (by (with_reducible repeat (first | refine blk_drewN ?_ _ | refine blk_drew ?_ | refine blk_alloc ?_ _)); exact BK584.out)) : gb584 ≠ gb592)); have n6_ := Aside0.mk ((by rw [hg]; exact Nat.ne_of_gt (blk_lt (g := gb584) (o := .cells #[.int .i64 t581, .int .i64 t582] 55 (0, 0)) (by (with_reducible repeat (first | refine blk_drewN ?_ _ | refine blk_drew ?_ | refine blk_alloc ?_ _)); exact BK584.out)) : gb592 ≠ gb584)); clear BK584; clear HB; have BK584 := n0_; have HB := n1_; have BK592 := n2_; have GW592 := n3_; have GE592 := n4_; have NB584_592 := n5_; have NB592_584 := n6_; clear n0_ n1_ n2_ n3_ n4_ n5_ n6_; clear hb hbox hg; have hnb43 := NB592_584.out; have hnc43 := NB584_592.out; have hcz44_0 : w42.cell? ⟨gb592, 0, none⟩ = some (.int .i64 0) := (blk_cell BK592.out 0).trans rfl; have hcz44_1 : w42.cell? ⟨gb592, 1, none⟩ = some (.int .i64 0) := (blk_cell BK592.out 1).trans rfl; have hfz44_0 := blk_frozen BK592.out 0; have hfz44_1 := blk_frozen BK592.out 1; have hcz45_0 : w42.cell? ⟨gb584, 0, none⟩ = some (.int .i64 t581) := (blk_cell BK584.out 0).trans rfl; have hcz45_1 : w42.cell? ⟨gb584, 1, none⟩ = some (.int .i64 t582) := (blk_cell BK584.out 1).trans rfl; have hfz45_0 := blk_frozen BK584.out 0; have hfz45_1 := blk_frozen BK584.out 1))
                          go_ret
                          exact ⟨by first | rfl | (simp [errW_none, errW_some] <;> rfl) | (simp [*, errW_none, errW_some] <;> rfl), by repeat (first | (with_reducible first | exact HB.out | apply below_alloc | apply pw_below_drewN | apply below_drew1 | refine below_set ?_ GE584.out | refine below_set ?_ GE592.out) | exact HB.out)⟩
                        · rw [if_neg c40] at H
                          have c40b0 : (t591 == 0) = false := beq_eq_false_iff_ne.mpr c40
                          have c40b1 : (t591 != 0) = true := bne_iff_ne.mpr c40
                          exact absurd ((Option.some.inj H).trans ht) (by decide)
                      · rw [if_neg c38] at H
                        exact absurd H (by simp)
                    · rw [if_neg c37] at H
                      exact absurd H (by simp)
      · rw [if_neg c8] at H
        have c8b0 : (t583 == 0) = false := beq_eq_false_iff_ne.mpr c8
        have c8b1 : (t583 != 0) = true := bne_iff_ne.mpr c8
        by_cases c50 : t580 = 0
        · rw [if_pos c50] at H
          have c50b0 : (t580 == 0) = true := beq_iff_eq.mpr c50
          have c50b1 : (t580 != 0) = false := bne_eq_false_iff_eq.mpr c50
          clear c50
          obtain rfl := Option.some.inj H
          go_enter Tryd.func14, Tryd.ntmps14
          go_wp2_with (first | ((with_reducible refine gate_callee (f := 40) rfl ?_); refine goesL_ (some 13) rfl rfl Tryd.func40 (by kernel_rfl) rfl #[] rfl (by (try simp only [List.map_toArray, List.map_cons, List.map_nil]); first | done | rfl | (simp only [List.length_drop, List.length_take]; rfl)) ?_; (with_reducible refine (crossbarlaw08_sane.calls  true _ A3.out).mono ?_); rintro e w51 ⟨rfl, hb⟩; refine ⟨_, rfl, ?_⟩; have n0_ := Aside0.mk (below_step (by repeat (first | (with_reducible first | exact HB.out | apply below_alloc | apply pw_below_drewN | apply below_drew1) | exact HB.out)) hb); clear HB; have HB := n0_; clear n0_; (try clear hb); (try clear hb2); (try clear hk); (try clear hi)) | ((with_reducible refine gate_callee (f := 41) rfl ?_); refine goesL_ (some 17) rfl rfl Tryd.func41 (by kernel_rfl) rfl #[.slice A0 l0.length c0, .string a1] rfl (by (try simp only [List.map_toArray, List.map_cons, List.map_nil]); first | done | rfl | (simp only [List.length_drop, List.length_take]; rfl)) ?_; (with_reducible refine (crossbarref08_Few.calls k _ _ l0 a1 true _ ?side1 ?side2 A5.out).mono ?_); (case side1 => repeat (first | exact (Kd.C_below HR0.out HB.out) | (with_reducible refine Kd.C_alloc ?_ _) | (with_reducible refine Kd.C_drewN ?_ _) | (with_reducible refine Kd.C_drew ?_))); (case side2 => exact HC0.out); rintro e w' ⟨rfl, ⟨nd, rfl⟩⟩; refine ⟨_, rfl, ?_⟩; (try (rw [drewN_self w51]; generalize hq_ : World.drewN w51 _ = w51; have n0_ : Aside0 (Below w.heap.size w w51) := ⟨by rw [← hq_]; exact (by repeat (first | (with_reducible first | exact HB.out | apply below_alloc | apply pw_below_drewN | apply below_drew1) | exact HB.out))⟩; clear HB hq_; have HB := n0_; clear n0_))) | ((with_reducible refine gate_callee (f := 44) rfl ?_); refine goesL_ (some 22) rfl rfl Tryd.func44 (by kernel_rfl) rfl #[.slice A0 l0.length c0, .string a1] rfl (by (try simp only [List.map_toArray, List.map_cons, List.map_nil]); first | done | rfl | (simp only [List.length_drop, List.length_take]; rfl)) ?_; (with_reducible refine (dialplan_Feed.calls k _ _ l0 a1 t580 t581 t582 t583 _ ?side1 ?side2 A7.out).mono ?_); (case side1 => repeat (first | exact (Kd.C_below HR0.out HB.out) | (with_reducible refine Kd.C_alloc ?_ _) | (with_reducible refine Kd.C_drewN ?_ _) | (with_reducible refine Kd.C_drew ?_))); (case side2 => exact HC0.out); rintro e w52 ⟨rfl, hb⟩; refine ⟨_, rfl, ?_⟩; have n0_ := Aside0.mk (below_step (by repeat (first | (with_reducible first | exact HB.out | apply below_alloc | apply pw_below_drewN | apply below_drew1) | exact HB.out)) hb); clear HB; have HB := n0_; clear n0_; (try clear hb); (try clear hb2); (try clear hk); (try clear hi)) | ((with_reducible refine gate_dst (N := 6) rfl ?_); (try (refine gate_guard (by rfl) ?_; dsimp only)); refine box_event ?hg (N := 6) ?hd (cs := #[.int .i64 0, .int .i64 0]) (t := 55) ?hr ?_; (case hd => rfl); (case hg => rfl); (case hr => first | (go_simp; done) | (go_simp; rfl)); intro gb584 hg w53 hbox hb; have n0_ := Aside0.mk (below_step (by repeat (first | (with_reducible first | exact HB.out | apply below_alloc | apply pw_below_drewN | apply below_drew1) | exact HB.out)) hb); have n1_ := Aside0.mk (hbox); have n2_ := Aside0.mk ((by rw [hg]; exact (below_size (by repeat (first | (with_reducible first | exact HB.out | apply below_alloc | apply pw_below_drewN | apply below_drew1) | exact HB.out))) : w.heap.size ≤ gb584)); have n3_ := Aside0.mk ((by rw [hg]; exact (below_size (by repeat (first | (with_reducible first | exact HB.out | apply below_alloc | apply pw_below_drewN | apply below_drew1) | exact HB.out))) : w.heap.size ≤ gb584)); clear HB; have HB := n0_; have BK584 := n1_; have GW584 := n2_; have GE584 := n3_; clear n0_ n1_ n2_ n3_; clear hb hbox hg; have hcz54_0 : w53.cell? ⟨gb584, 0, none⟩ = some (.int .i64 0) := (blk_cell BK584.out 0).trans rfl; have hcz54_1 : w53.cell? ⟨gb584, 1, none⟩ = some (.int .i64 0) := (blk_cell BK584.out 1).trans rfl; have hfz54_0 := blk_frozen BK584.out 0; have hfz54_1 := blk_frozen BK584.out 1))
          go_ret
          exact ⟨by first | rfl | (simp [errW_none, errW_some] <;> rfl) | (simp [*, errW_none, errW_some] <;> rfl), by repeat (first | (with_reducible first | exact HB.out | apply below_alloc | apply pw_below_drewN | apply below_drew1 | refine below_set ?_ GE584.out) | exact HB.out)⟩
        · rw [if_neg c50] at H
          have c50b0 : (t580 == 0) = false := beq_eq_false_iff_ne.mpr c50
          have c50b1 : (t580 != 0) = true := bne_iff_ne.mpr c50
          exact absurd ((Option.some.inj H).trans ht) (by decide)
    · replace c6 := Bool.eq_false_iff.mpr c6
      subst c6
      have H1 : (some true) = some r := by rw [if_neg (show ¬ (false = true) by decide)] at H; exact H
      clear H
      have H := H1
      clear H1
      obtain rfl := Option.some.inj H
      go_enter Tryd.func14, Tryd.ntmps14
      go_wp2_with (first | ((with_reducible refine gate_callee (f := 40) rfl ?_); refine goesL_ (some 13) rfl rfl Tryd.func40 (by kernel_rfl) rfl #[] rfl (by (try simp only [List.map_toArray, List.map_cons, List.map_nil]); first | done | rfl | (simp only [List.length_drop, List.length_take]; rfl)) ?_; (with_reducible refine (crossbarlaw08_sane.calls  true _ A3.out).mono ?_); rintro e w59 ⟨rfl, hb⟩; refine ⟨_, rfl, ?_⟩; have n0_ := Aside0.mk (below_step (by repeat (first | (with_reducible first | exact HB.out | apply below_alloc | apply pw_below_drewN | apply below_drew1) | exact HB.out)) hb); clear HB; have HB := n0_; clear n0_; (try clear hb); (try clear hb2); (try clear hk); (try clear hi)) | ((with_reducible refine gate_callee (f := 41) rfl ?_); refine goesL_ (some 17) rfl rfl Tryd.func41 (by kernel_rfl) rfl #[.slice A0 l0.length c0, .string a1] rfl (by (try simp only [List.map_toArray, List.map_cons, List.map_nil]); first | done | rfl | (simp only [List.length_drop, List.length_take]; rfl)) ?_; (with_reducible refine (crossbarref08_Few.calls k _ _ l0 a1 false _ ?side1 ?side2 A5.out).mono ?_); (case side1 => repeat (first | exact (Kd.C_below HR0.out HB.out) | (with_reducible refine Kd.C_alloc ?_ _) | (with_reducible refine Kd.C_drewN ?_ _) | (with_reducible refine Kd.C_drew ?_))); (case side2 => exact HC0.out); rintro e w' ⟨rfl, ⟨nd, rfl⟩⟩; refine ⟨_, rfl, ?_⟩))
      go_ret
      exact ⟨by first | rfl | (simp [errW_none, errW_some] <;> rfl) | (simp [*, errW_none, errW_some] <;> rfl), by repeat (first | (with_reducible first | exact HB.out | apply below_alloc | apply pw_below_drewN | apply below_drew1) | exact HB.out)⟩
  · replace c4 := Bool.eq_false_iff.mpr c4
    subst c4
    have H1 : (some false) = some r := by rw [if_neg (show ¬ (false = true) by decide)] at H; exact H
    clear H
    have H := H1
    clear H1
    exact absurd ((Option.some.inj H).trans ht) (by decide)
end Go.Proofs.YtmendieiikmbhaaDoor.Fn
