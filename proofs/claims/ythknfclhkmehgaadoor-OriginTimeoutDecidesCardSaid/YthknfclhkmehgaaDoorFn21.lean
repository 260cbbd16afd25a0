-- printed by a program of this session, out of the translation; Lean checks it
import Derived.Test.YthknfclhkmehgaaDoorFn0
import Derived.Test.YthknfclhkmehgaaDoorFn2
import Derived.Test.YthknfclhkmehgaaDoorFn4
import Derived.Test.YthknfclhkmehgaaDoorFn17
import Derived.Test.YthknfclhkmehgaaDoorEOdial
import Derived.Test.YthknfclhkmehgaaDoorESaneO
import Derived.Test.YthknfclhkmehgaaDoorEStep
namespace Go.Proofs.YthknfclhkmehgaaDoor.Fn
open Go.RowKit Go.Proofs.YthknfclhkmehgaaDoorW.PrintWords Go.Proofs.YthknfclhkmehgaaDoorW.PrintLast Go.Proofs.YthknfclhkmehgaaDoorW.PrintMore
attribute [local go_sem] max2_int min2_int max_two min_two max_three min_three max_four min_four   -- for this text's walks alone
set_option linter.unusedVariables false
set_option linter.unusedSimpArgs false

attribute [local go_sem high] eqA45
/-! ### crossbarlaw16_OriginStaysValid: function 12 -/
mutual
noncomputable def crossbarlaw16_OriginStaysValid.j0 : Nat → List (S35) → ByteArray → Bool → Int → ByteArray → Int → Int → Int → Option (Bool)
  | 0, _, _, _, _, _, _, _, _ => none
  | k + 1, x1, x3, x30, x482000, x482001, x483000, x483001, x483002 => if x30 = true then (some true) else ((origin_Step.f k x482000 x482001 x1 x483000 x483001 x483002).bind fun bt485 => ((origin_Dial.f k x1 x3).bind fun bt492 => ((origin_Step.f k x482000 x482001 x1 2 0 0).bind fun bt499 => ((origin_Check.f k x482000 x482001 x1).bind fun t506 => (if bt485.2.2.2 = 0 then ((origin_Check.f k bt485.1 bt485.2.1 x1).bind fun t507 => (if t507 = 0 then (if bt492.2.2.2 = 0 then ((origin_Check.f k bt492.1 bt492.2.1 x1).bind fun t508 => (if t508 = 0 then (if t506 = 0 then (crossbarlaw16_OriginStaysValid.j1 k bt499.2.2.2 t506 false x482000 x482001 bt499.1 bt499.2.1) else (crossbarlaw16_OriginStaysValid.j1 k bt499.2.2.2 t506 (bt485.2.2.2 != t506) x482000 x482001 bt499.1 bt499.2.1)) else (crossbarlaw16_OriginStaysValid.j1 k bt499.2.2.2 t506 true x482000 x482001 bt499.1 bt499.2.1))) else (if t506 = 0 then (crossbarlaw16_OriginStaysValid.j1 k bt499.2.2.2 t506 false x482000 x482001 bt499.1 bt499.2.1) else (crossbarlaw16_OriginStaysValid.j1 k bt499.2.2.2 t506 (bt485.2.2.2 != t506) x482000 x482001 bt499.1 bt499.2.1))) else (crossbarlaw16_OriginStaysValid.j1 k bt499.2.2.2 t506 true x482000 x482001 bt499.1 bt499.2.1))) else (if bt492.2.2.2 = 0 then ((origin_Check.f k bt492.1 bt492.2.1 x1).bind fun t509 => (if t509 = 0 then (if t506 = 0 then (crossbarlaw16_OriginStaysValid.j1 k bt499.2.2.2 t506 false x482000 x482001 bt499.1 bt499.2.1) else (crossbarlaw16_OriginStaysValid.j1 k bt499.2.2.2 t506 (bt485.2.2.2 != t506) x482000 x482001 bt499.1 bt499.2.1)) else (crossbarlaw16_OriginStaysValid.j1 k bt499.2.2.2 t506 true x482000 x482001 bt499.1 bt499.2.1))) else (if t506 = 0 then (crossbarlaw16_OriginStaysValid.j1 k bt499.2.2.2 t506 false x482000 x482001 bt499.1 bt499.2.1) else (crossbarlaw16_OriginStaysValid.j1 k bt499.2.2.2 t506 (bt485.2.2.2 != t506) x482000 x482001 bt499.1 bt499.2.1))))))))
noncomputable def crossbarlaw16_OriginStaysValid.j1 : Nat → Int → Int → Bool → Int → ByteArray → Int → ByteArray → Option (Bool)
  | 0, _, _, _, _, _, _, _ => none
  | k + 1, x17, x18, x83, x482000, x482001, x506000, x506001 => if x83 = true then (some false) else (if x18 = 0 then (if x482000 = 0 then (some (x17 == 160)) else (if x17 = 0 then (some (x506000 == 0 && (x506001.toList == ([] : List UInt8)))) else (some false))) else (some (x17 == x18)))
end
noncomputable def crossbarlaw16_OriginStaysValid.f (k : Nat) (a0_0 : Int) (a0_1 : ByteArray) (l1 : List (S35)) (a2_0 : Int) (a2_1 : Int) (a2_2 : Int) (a3 : ByteArray) : Option (Bool) := (crossbarlaw16_sane.f).bind fun t483 => (if t483 = true then ((crossbarref16_Few.f k l1 a0_1).bind fun t484 => (if t484 = true then (crossbarlaw16_OriginStaysValid.j0 k l1 a3 (decide ((a3.size : Int) > 60)) a0_0 a0_1 a2_0 a2_1 a2_2) else (crossbarlaw16_OriginStaysValid.j0 k l1 a3 true a0_0 a0_1 a2_0 a2_1 a2_2))) else (some false))
theorem crossbarlaw16_OriginStaysValid.mono_l : ∀ k, (∀ y0 y1 y2 y3 y4 y5 y6 y7, LeO (crossbarlaw16_OriginStaysValid.j0 k y0 y1 y2 y3 y4 y5 y6 y7) (crossbarlaw16_OriginStaysValid.j0 (k + 1) y0 y1 y2 y3 y4 y5 y6 y7)) ∧ (∀ y0 y1 y2 y3 y4 y5 y6, LeO (crossbarlaw16_OriginStaysValid.j1 k y0 y1 y2 y3 y4 y5 y6) (crossbarlaw16_OriginStaysValid.j1 (k + 1) y0 y1 y2 y3 y4 y5 y6))
  | 0 => ⟨fun _ _ _ _ _ _ _ _ r h => by simp [crossbarlaw16_OriginStaysValid.j0] at h, fun _ _ _ _ _ _ _ r h => by simp [crossbarlaw16_OriginStaysValid.j1] at h⟩
  | k + 1 => by
    obtain ⟨ih0, ih1⟩ := crossbarlaw16_OriginStaysValid.mono_l k
    refine ⟨?_, ?_⟩
    · intro y0 y1 y2 y3 y4 y5 y6 y7
      unfold crossbarlaw16_OriginStaysValid.j0
      repeat' first
      | (with_reducible exact ih0 _ _ _ _ _ _ _ _)
      | (with_reducible exact ih1 _ _ _ _ _ _ _)
      | (with_reducible exact crossbarref16_Few.mono _ _ _)
      | (with_reducible exact origin_Check.mono _ _ _ _)
      | (with_reducible exact origin_Dial.mono _ _ _)
      | (with_reducible exact origin_Step.mono _ _ _ _ _ _ _)
      | (with_reducible exact LeO.refl _)
      | (with_reducible exact LeO.none _)
      | (with_reducible refine LeO.ite ?_ ?_)
      | (with_reducible refine LeO.bind ?_ (fun _ => ?_))
      | exact ih0 _ _ _ _ _ _ _ _
      | exact ih1 _ _ _ _ _ _ _
      | exact crossbarref16_Few.mono _ _ _
      | exact origin_Check.mono _ _ _ _
      | exact origin_Dial.mono _ _ _
      | exact origin_Step.mono _ _ _ _ _ _ _
      | exact LeO.none _
      | refine LeO.ite ?_ ?_
      | refine LeO.bind ?_ (fun _ => ?_)
    · intro y0 y1 y2 y3 y4 y5 y6
      unfold crossbarlaw16_OriginStaysValid.j1
      repeat' first
      | (with_reducible exact ih0 _ _ _ _ _ _ _ _)
      | (with_reducible exact ih1 _ _ _ _ _ _ _)
      | (with_reducible exact crossbarref16_Few.mono _ _ _)
      | (with_reducible exact origin_Check.mono _ _ _ _)
      | (with_reducible exact origin_Dial.mono _ _ _)
      | (with_reducible exact origin_Step.mono _ _ _ _ _ _ _)
      | (with_reducible exact LeO.refl _)
      | (with_reducible exact LeO.none _)
      | (with_reducible refine LeO.ite ?_ ?_)
      | (with_reducible refine LeO.bind ?_ (fun _ => ?_))
      | exact ih0 _ _ _ _ _ _ _ _
      | exact ih1 _ _ _ _ _ _ _
      | exact crossbarref16_Few.mono _ _ _
      | exact origin_Check.mono _ _ _ _
      | exact origin_Dial.mono _ _ _
      | exact origin_Step.mono _ _ _ _ _ _ _
      | exact LeO.none _
      | refine LeO.ite ?_ ?_
      | refine LeO.bind ?_ (fun _ => ?_)
theorem crossbarlaw16_OriginStaysValid.mono : ∀ a0 a1 a2 a3 a4 a5 a6 k, LeO (crossbarlaw16_OriginStaysValid.f k a0 a1 a2 a3 a4 a5 a6) (crossbarlaw16_OriginStaysValid.f (k + 1) a0 a1 a2 a3 a4 a5 a6) := by
  intro a0 a1 a2 a3 a4 a5 a6 k
  obtain ⟨ih0, ih1⟩ := crossbarlaw16_OriginStaysValid.mono_l k
  unfold crossbarlaw16_OriginStaysValid.f
  repeat' first
      | (with_reducible exact ih0 _ _ _ _ _ _ _ _)
      | (with_reducible exact ih1 _ _ _ _ _ _ _)
      | (with_reducible exact crossbarref16_Few.mono _ _ _)
      | (with_reducible exact origin_Check.mono _ _ _ _)
      | (with_reducible exact origin_Dial.mono _ _ _)
      | (with_reducible exact origin_Step.mono _ _ _ _ _ _ _)
      | (with_reducible exact LeO.refl _)
      | (with_reducible exact LeO.none _)
      | (with_reducible refine LeO.ite ?_ ?_)
      | (with_reducible refine LeO.bind ?_ (fun _ => ?_))
      | exact ih0 _ _ _ _ _ _ _ _
      | exact ih1 _ _ _ _ _ _ _
      | exact crossbarref16_Few.mono _ _ _
      | exact origin_Check.mono _ _ _ _
      | exact origin_Dial.mono _ _ _
      | exact origin_Step.mono _ _ _ _ _ _ _
      | exact LeO.none _
      | refine LeO.ite ?_ ?_
      | refine LeO.bind ?_ (fun _ => ?_)
set_option maxHeartbeats 8000000 in
set_option maxRecDepth 100000 in
theorem crossbarlaw16_OriginStaysValid.calls (k : Nat) (a0_0 : Int) (a0_1 : ByteArray) (A1 : Option Addr) (c1 : Nat) (l1 : List (S35)) (a2_0 : Int) (a2_1 : Int) (a2_2 : Int) (a3 : ByteArray) (r : Bool) (ht : r = true) (w : World) (hr1 : Kd.C k35 w A1 l1.length l1) (hc1 : l1.length ≤ c1) (h : crossbarlaw16_OriginStaysValid.f k a0_0 a0_1 l1 a2_0 a2_1 a2_2 a3 = some r) :
    Calls Tryd.prog 12 #[.agg #[.int .i64 a0_0, .string a0_1], .slice A1 l1.length c1, .agg #[.int .i64 a2_0, .int .i64 a2_1, .int .u8 a2_2], .string a3] w fun e w' => e = .returned (.bool r) ∧ Below w.heap.size w w' := by
  have hu45 := Tryd.underlying45
  have hu47 := Tryd.underlying47
  have HR1 := Aside0.mk hr1
  have HC1 := Aside0.mk hc1
  clear hr1 hc1
  have HB := Aside0.mk (Below.refl w.heap.size w)
  have H : ((crossbarlaw16_sane.f).bind fun t483 => (if t483 = true then ((crossbarref16_Few.f k l1 a0_1).bind fun t484 => (if t484 = true then (crossbarlaw16_OriginStaysValid.j0 k l1 a3 (decide ((a3.size : Int) > 60)) a0_0 a0_1 a2_0 a2_1 a2_2) else (crossbarlaw16_OriginStaysValid.j0 k l1 a3 true a0_0 a0_1 a2_0 a2_1 a2_2))) else (some false))) = some r := h
  clear h
  replace H := Option.bind_eq_some_iff.mp H
  obtain ⟨t483, A50, H⟩ := H
  replace H : (if t483 = true then ((crossbarref16_Few.f k l1 a0_1).bind fun t484 => (if t484 = true then (crossbarlaw16_OriginStaysValid.j0 k l1 a3 (decide ((a3.size : Int) > 60)) a0_0 a0_1 a2_0 a2_1 a2_2) else (crossbarlaw16_OriginStaysValid.j0 k l1 a3 true a0_0 a0_1 a2_0 a2_1 a2_2))) else (some false)) = some r := H
  have A5 := Aside0.mk A50
  clear A50
  by_cases c6 : t483 = true
  · subst c6
    have H1 : ((crossbarref16_Few.f k l1 a0_1).bind fun t484 => (if t484 = true then (crossbarlaw16_OriginStaysValid.j0 k l1 a3 (decide ((a3.size : Int) > 60)) a0_0 a0_1 a2_0 a2_1 a2_2) else (crossbarlaw16_OriginStaysValid.j0 k l1 a3 true a0_0 a0_1 a2_0 a2_1 a2_2))) = some r := by rw [if_pos rfl] at H; exact H
    clear H
    have H := H1
    clear H1
    have HC7 := Aside0.mk H
    clear H
    go_enter Tryd.func12, Tryd.ntmps12
    go_upto_region 3 with (first | ((with_reducible refine gate_dst (N := 4) rfl ?_); (try (refine gate_guard (by rfl) ?_; dsimp only)); refine box_event ?hg (N := 4) ?hd (cs := #[.int .i64 a0_0, .string a0_1]) (t := 45) ?hr ?_; (case hd => rfl); (case hg => rfl); (case hr => first | (go_simp; done) | (go_simp; rfl)); intro gb481 hg w8 hbox hb; have n0_ := Aside0.mk (below_step (by repeat (first | (with_reducible first | exact HB.out | apply below_alloc | apply pw_below_drewN | apply below_drew1) | exact HB.out)) hb); have n1_ := Aside0.mk (hbox); have n2_ := Aside0.mk ((by rw [hg]; exact (below_size (by repeat (first | (with_reducible first | exact HB.out | apply below_alloc | apply pw_below_drewN | apply below_drew1) | exact HB.out))) : w.heap.size ≤ gb481)); have n3_ := Aside0.mk ((by rw [hg]; exact (below_size (by repeat (first | (with_reducible first | exact HB.out | apply below_alloc | apply pw_below_drewN | apply below_drew1) | exact HB.out))) : w.heap.size ≤ gb481)); clear HB; have HB := n0_; have BK481 := n1_; have GW481 := n2_; have GE481 := n3_; clear n0_ n1_ n2_ n3_; clear hb hbox hg) | ((with_reducible refine gate_dst (N := 6) rfl ?_); (try (refine gate_guard (by rfl) ?_; dsimp only)); refine box_event ?hg (N := 6) ?hd (cs := #[.int .i64 a2_0, .int .i64 a2_1, .int .u8 a2_2]) (t := 47) ?hr ?_; (case hd => rfl); (case hg => rfl); (case hr => first | (go_simp; done) | (go_simp; rfl)); intro gb482 hg w9 hbox hb; have n0_ := Aside0.mk (blk_below (g := gb481) (o := .cells #[.int .i64 a0_0, .string a0_1] 45 (0, 0)) (by (with_reducible repeat (first | refine blk_drewN ?_ _ | refine blk_drew ?_ | refine blk_alloc ?_ _)); exact BK481.out) hb); have n1_ := Aside0.mk (below_step (by repeat (first | (with_reducible first | exact HB.out | apply below_alloc | apply pw_below_drewN | apply below_drew1 | refine below_set ?_ GE481.out) | exact HB.out)) hb); have n2_ := Aside0.mk (hbox); have n3_ := Aside0.mk ((by rw [hg]; exact (below_size (by repeat (first | (with_reducible first | exact HB.out | apply below_alloc | apply pw_below_drewN | apply below_drew1 | refine below_set ?_ GE481.out) | exact HB.out))) : w.heap.size ≤ gb482)); have n4_ := Aside0.mk ((by rw [hg]; exact (below_size (by repeat (first | (with_reducible first | exact HB.out | apply below_alloc | apply pw_below_drewN | apply below_drew1 | refine below_set ?_ GE481.out) | exact HB.out))) : w.heap.size ≤ gb482)); have n5_ := Aside0.mk ((by rw [hg]; exact Nat.ne_of_lt (blk_lt (g := gb481) (o := .cells #[.int .i64 a0_0, .string a0_1] 45 (0, 0)) (by (with_reducible repeat (first | refine blk_drewN ?_ _ | refine blk_drew ?_ | refine blk_alloc ?_ _)); exact BK481.out)) : gb481 ≠ gb482)); have n6_ := Aside0.mk ((by rw [hg]; exact Nat.ne_of_gt (blk_lt (g := gb481) (o := .cells #[.int .i64 a0_0, .string a0_1] 45 (0, 0)) (by (with_reducible repeat (first | refine blk_drewN ?_ _ | refine blk_drew ?_ | refine blk_alloc ?_ _)); exact BK481.out)) : gb482 ≠ gb481)); clear BK481; clear HB; have BK481 := n0_; have HB := n1_; have BK482 := n2_; have GW482 := n3_; have GE482 := n4_; have NB481_482 := n5_; have NB482_481 := n6_; clear n0_ n1_ n2_ n3_ n4_ n5_ n6_; clear hb hbox hg) | ((with_reducible refine gate_callee (f := 22) rfl ?_); refine goesL_ (some 19) rfl rfl Tryd.func22 (by kernel_rfl) rfl #[] rfl (by (try simp only [List.map_toArray, List.map_cons, List.map_nil]); first | done | rfl | (simp only [List.length_drop, List.length_take]; rfl)) ?_; (with_reducible refine (crossbarlaw16_sane.calls  true _ A5.out).mono ?_); rintro e w10 ⟨rfl, hb⟩; refine ⟨_, rfl, ?_⟩; have n0_ := Aside0.mk (blk_below (g := gb481) (o := .cells #[.int .i64 a0_0, .string a0_1] 45 (0, 0)) (by (with_reducible repeat (first | refine blk_drewN ?_ _ | refine blk_drew ?_ | refine blk_alloc ?_ _)); exact BK481.out) hb); have n1_ := Aside0.mk (blk_below (g := gb482) (o := .cells #[.int .i64 a2_0, .int .i64 a2_1, .int .u8 a2_2] 47 (0, 0)) (by (with_reducible repeat (first | refine blk_drewN ?_ _ | refine blk_drew ?_ | refine blk_alloc ?_ _)); exact BK482.out) hb); have n2_ := Aside0.mk (below_step (by repeat (first | (with_reducible first | exact HB.out | apply below_alloc | apply pw_below_drewN | apply below_drew1 | refine below_set ?_ GE481.out | refine below_set ?_ GE482.out) | exact HB.out)) hb); clear BK481; clear BK482; clear HB; have BK481 := n0_; have BK482 := n1_; have HB := n2_; clear n0_ n1_ n2_; (try clear hb); (try clear hb2); (try clear hk); (try clear hi)))
    (try simp only [Act.put, List.setIfInBounds_toArray, List.set_cons_zero, List.set_cons_succ])
    go_cut [30] (fun v30 wc => ∃ (kq : Nat) (x30_6 : Bool), v30 = .bool x30_6 ∧ Aside0 (crossbarlaw16_OriginStaysValid.j0 kq l1 a3 x30_6 a0_0 a0_1 a2_0 a2_1 a2_2 = some r) ∧ Aside0 (kq ≤ k) ∧ Aside0 (wc.heap[gb481]? = some (.cells #[.int .i64 a0_0, .string a0_1] 45 (0, 0))) ∧ Aside0 (wc.heap[gb482]? = some (.cells #[.int .i64 a2_0, .int .i64 a2_1, .int .u8 a2_2] 47 (0, 0))) ∧ Aside0 (Below w.heap.size w wc))
    case first =>
      have H := HC7.out
      clear HC7
      replace H := Option.bind_eq_some_iff.mp H
      obtain ⟨t484, A110, H⟩ := H
      replace H : (if t484 = true then (crossbarlaw16_OriginStaysValid.j0 k l1 a3 (decide ((a3.size : Int) > 60)) a0_0 a0_1 a2_0 a2_1 a2_2) else (crossbarlaw16_OriginStaysValid.j0 k l1 a3 true a0_0 a0_1 a2_0 a2_1 a2_2)) = some r := H
      have A11 := Aside0.mk A110
      clear A110
      by_cases c12 : t484 = true
      · subst c12
        have H1 : (crossbarlaw16_OriginStaysValid.j0 k l1 a3 (decide ((a3.size : Int) > 60)) a0_0 a0_1 a2_0 a2_1 a2_2) = some r := by rw [if_pos rfl] at H; exact H
        clear H
        have H := H1
        clear H1
        have H' := Aside0.mk H
        clear H
        have hnb13 := NB481_482.out
        have hnc13 := NB482_481.out
        have hcz14_0 : w10.cell? ⟨gb481, 0, none⟩ = some (.int .i64 a0_0) := (blk_cell BK481.out 0).trans rfl
        have hcz14_1 : w10.cell? ⟨gb481, 1, none⟩ = some (.string a0_1) := (blk_cell BK481.out 1).trans rfl
        have hfz14_0 := blk_frozen BK481.out 0
        have hfz14_1 := blk_frozen BK481.out 1
        go_wp2_with (first | ((with_reducible refine gate_callee (f := 23) rfl ?_); refine goesL_ (some 24) rfl rfl Tryd.func23 (by kernel_rfl) rfl #[.slice A1 l1.length c1, .string a0_1] rfl (by (try simp only [List.map_toArray, List.map_cons, List.map_nil]); first | done | rfl | (simp only [List.length_drop, List.length_take]; rfl)) ?_; (with_reducible refine (crossbarref16_Few.calls k _ _ l1 a0_1 true _ ?side1 ?side2 A11.out).mono ?_); (case side1 => repeat (first | exact (Kd.C_below HR1.out HB.out) | (with_reducible refine Kd.C_alloc ?_ _) | (with_reducible refine Kd.C_drewN ?_ _) | (with_reducible refine Kd.C_drew ?_))); (case side2 => exact HC1.out); rintro e w' ⟨rfl, ⟨nd, rfl⟩⟩; refine ⟨_, rfl, ?_⟩))
        go_meet
        case rel => exact ⟨_, (decide ((a3.size : Int) > 60)), (by first | rfl | (simp; done) | (simp [*]; done)), H', ⟨by first | omega | exact Nat.le_refl _⟩, ⟨by (with_reducible repeat (first | refine blk_drewN ?_ _ | refine blk_drew ?_ | refine blk_alloc ?_ _)); exact BK481.out⟩, ⟨by (with_reducible repeat (first | refine blk_drewN ?_ _ | refine blk_drew ?_ | refine blk_alloc ?_ _)); exact BK482.out⟩, ⟨by repeat (first | (with_reducible first | exact HB.out | apply below_alloc | apply pw_below_drewN | apply below_drew1 | refine below_set ?_ GE481.out | refine below_set ?_ GE482.out) | exact HB.out)⟩⟩
      · replace c12 := Bool.eq_false_iff.mpr c12
        subst c12
        have H1 : (crossbarlaw16_OriginStaysValid.j0 k l1 a3 true a0_0 a0_1 a2_0 a2_1 a2_2) = some r := by rw [if_neg (show ¬ (false = true) by decide)] at H; exact H
        clear H
        have H := H1
        clear H1
        have H' := Aside0.mk H
        clear H
        have hnb15 := NB481_482.out
        have hnc15 := NB482_481.out
        have hcz16_0 : w10.cell? ⟨gb481, 0, none⟩ = some (.int .i64 a0_0) := (blk_cell BK481.out 0).trans rfl
        have hcz16_1 : w10.cell? ⟨gb481, 1, none⟩ = some (.string a0_1) := (blk_cell BK481.out 1).trans rfl
        have hfz16_0 := blk_frozen BK481.out 0
        have hfz16_1 := blk_frozen BK481.out 1
        go_wp2_with (first | ((with_reducible refine gate_callee (f := 23) rfl ?_); refine goesL_ (some 24) rfl rfl Tryd.func23 (by kernel_rfl) rfl #[.slice A1 l1.length c1, .string a0_1] rfl (by (try simp only [List.map_toArray, List.map_cons, List.map_nil]); first | done | rfl | (simp only [List.length_drop, List.length_take]; rfl)) ?_; (with_reducible refine (crossbarref16_Few.calls k _ _ l1 a0_1 false _ ?side1 ?side2 A11.out).mono ?_); (case side1 => repeat (first | exact (Kd.C_below HR1.out HB.out) | (with_reducible refine Kd.C_alloc ?_ _) | (with_reducible refine Kd.C_drewN ?_ _) | (with_reducible refine Kd.C_drew ?_))); (case side2 => exact HC1.out); rintro e w' ⟨rfl, ⟨nd, rfl⟩⟩; refine ⟨_, rfl, ?_⟩))
        go_meet
        case rel => exact ⟨_, (true), (by first | rfl | (simp; done) | (simp [*]; done)), H', ⟨by first | omega | exact Nat.le_refl _⟩, ⟨by (with_reducible repeat (first | refine blk_drewN ?_ _ | refine blk_drew ?_ | refine blk_alloc ?_ _)); exact BK481.out⟩, ⟨by (with_reducible repeat (first | refine blk_drewN ?_ _ | refine blk_drew ?_ | refine blk_alloc ?_ _)); exact BK482.out⟩, ⟨by repeat (first | (with_reducible first | exact HB.out | apply below_alloc | apply pw_below_drewN | apply below_drew1 | refine below_set ?_ GE481.out | refine below_set ?_ GE482.out) | exact HB.out)⟩⟩
    case rest =>
      clear HC7
      try clear c1
      try clear c2
      try clear p2
      try clear c6
      try clear c12
      try clear c13
      try clear c15
      try clear hcz14_0
      try clear hcz14_1
      try clear hcz16_0
      try clear hcz16_1
      try clear hfz14_0
      try clear hfz14_1
      try clear hfz16_0
      try clear hfz16_1
      obtain ⟨kq, x30_6, rfl, HA, HJ6, BK481, BK482, HB⟩ := hcut
      cases kq with
      | zero => exact absurd HA.out (by simp [crossbarlaw16_OriginStaysValid.j0])
      | succ kj6 =>
        have H := HA.out
        clear HA
        simp only [crossbarlaw16_OriginStaysValid.j0] at H
        by_cases c17 : x30_6 = true
        · subst c17
          have H1 : (some true) = some r := by rw [if_pos rfl] at H; exact H
          clear H
          have H := H1
          clear H1
          obtain rfl := Option.some.inj H
          clear ht
          go_wp2
          go_ret
          exact ⟨by first | rfl | (simp [errW_none, errW_some] <;> rfl) | (simp [*, errW_none, errW_some] <;> rfl), by repeat (first | (with_reducible first | exact HB.out | apply below_alloc | apply pw_below_drewN | apply below_drew1 | refine below_set ?_ GE481.out | refine below_set ?_ GE482.out) | exact HB.out)⟩
        · replace c17 := Bool.eq_false_iff.mpr c17
          subst c17
          have H1 : ((origin_Step.f kj6 a0_0 a0_1 l1 a2_0 a2_1 a2_2).bind fun bt485 => ((origin_Dial.f kj6 l1 a3).bind fun bt492 => ((origin_Step.f kj6 a0_0 a0_1 l1 2 0 0).bind fun bt499 => ((origin_Check.f kj6 a0_0 a0_1 l1).bind fun t506 => (if bt485.2.2.2 = 0 then ((origin_Check.f kj6 bt485.1 bt485.2.1 l1).bind fun t507 => (if t507 = 0 then (if bt492.2.2.2 = 0 then ((origin_Check.f kj6 bt492.1 bt492.2.1 l1).bind fun t508 => (if t508 = 0 then (if t506 = 0 then (crossbarlaw16_OriginStaysValid.j1 kj6 bt499.2.2.2 t506 false a0_0 a0_1 bt499.1 bt499.2.1) else (crossbarlaw16_OriginStaysValid.j1 kj6 bt499.2.2.2 t506 (bt485.2.2.2 != t506) a0_0 a0_1 bt499.1 bt499.2.1)) else (crossbarlaw16_OriginStaysValid.j1 kj6 bt499.2.2.2 t506 true a0_0 a0_1 bt499.1 bt499.2.1))) else (if t506 = 0 then (crossbarlaw16_OriginStaysValid.j1 kj6 bt499.2.2.2 t506 false a0_0 a0_1 bt499.1 bt499.2.1) else (crossbarlaw16_OriginStaysValid.j1 kj6 bt499.2.2.2 t506 (bt485.2.2.2 != t506) a0_0 a0_1 bt499.1 bt499.2.1))) else (crossbarlaw16_OriginStaysValid.j1 kj6 bt499.2.2.2 t506 true a0_0 a0_1 bt499.1 bt499.2.1))) else (if bt492.2.2.2 = 0 then ((origin_Check.f kj6 bt492.1 bt492.2.1 l1).bind fun t509 => (if t509 = 0 then (if t506 = 0 then (crossbarlaw16_OriginStaysValid.j1 kj6 bt499.2.2.2 t506 false a0_0 a0_1 bt499.1 bt499.2.1) else (crossbarlaw16_OriginStaysValid.j1 kj6 bt499.2.2.2 t506 (bt485.2.2.2 != t506) a0_0 a0_1 bt499.1 bt499.2.1)) else (crossbarlaw16_OriginStaysValid.j1 kj6 bt499.2.2.2 t506 true a0_0 a0_1 bt499.1 bt499.2.1))) else (if t506 = 0 then (crossbarlaw16_OriginStaysValid.j1 kj6 bt499.2.2.2 t506 false a0_0 a0_1 bt499.1 bt499.2.1) else (crossbarlaw16_OriginStaysValid.j1 kj6 bt499.2.2.2 t506 (bt485.2.2.2 != t506) a0_0 a0_1 bt499.1 bt499.2.1)))))))) = some r := by rw [if_neg (show ¬ (false = true) by decide)] at H; exact H
          clear H
          have H := H1
          clear H1
          replace H := Option.bind_eq_some_iff.mp H
          obtain ⟨⟨t485, t486, t487, t490⟩, A180, H⟩ := H
          replace H : ((origin_Dial.f kj6 l1 a3).bind fun bt492 => ((origin_Step.f kj6 a0_0 a0_1 l1 2 0 0).bind fun bt499 => ((origin_Check.f kj6 a0_0 a0_1 l1).bind fun t506 => (if t490 = 0 then ((origin_Check.f kj6 t485 t486 l1).bind fun t507 => (if t507 = 0 then (if bt492.2.2.2 = 0 then ((origin_Check.f kj6 bt492.1 bt492.2.1 l1).bind fun t508 => (if t508 = 0 then (if t506 = 0 then (crossbarlaw16_OriginStaysValid.j1 kj6 bt499.2.2.2 t506 false a0_0 a0_1 bt499.1 bt499.2.1) else (crossbarlaw16_OriginStaysValid.j1 kj6 bt499.2.2.2 t506 (t490 != t506) a0_0 a0_1 bt499.1 bt499.2.1)) else (crossbarlaw16_OriginStaysValid.j1 kj6 bt499.2.2.2 t506 true a0_0 a0_1 bt499.1 bt499.2.1))) else (if t506 = 0 then (crossbarlaw16_OriginStaysValid.j1 kj6 bt499.2.2.2 t506 false a0_0 a0_1 bt499.1 bt499.2.1) else (crossbarlaw16_OriginStaysValid.j1 kj6 bt499.2.2.2 t506 (t490 != t506) a0_0 a0_1 bt499.1 bt499.2.1))) else (crossbarlaw16_OriginStaysValid.j1 kj6 bt499.2.2.2 t506 true a0_0 a0_1 bt499.1 bt499.2.1))) else (if bt492.2.2.2 = 0 then ((origin_Check.f kj6 bt492.1 bt492.2.1 l1).bind fun t509 => (if t509 = 0 then (if t506 = 0 then (crossbarlaw16_OriginStaysValid.j1 kj6 bt499.2.2.2 t506 false a0_0 a0_1 bt499.1 bt499.2.1) else (crossbarlaw16_OriginStaysValid.j1 kj6 bt499.2.2.2 t506 (t490 != t506) a0_0 a0_1 bt499.1 bt499.2.1)) else (crossbarlaw16_OriginStaysValid.j1 kj6 bt499.2.2.2 t506 true a0_0 a0_1 bt499.1 bt499.2.1))) else (if t506 = 0 then (crossbarlaw16_OriginStaysValid.j1 kj6 bt499.2.2.2 t506 false a0_0 a0_1 bt499.1 bt499.2.1) else (crossbarlaw16_OriginStaysValid.j1 kj6 bt499.2.2.2 t506 (t490 != t506) a0_0 a0_1 bt499.1 bt499.2.1))))))) = some r := H
          have A18 := Aside0.mk A180
          clear A180
          replace H := Option.bind_eq_some_iff.mp H
          obtain ⟨⟨t492, t493, t494, t497⟩, A190, H⟩ := H
          replace H : ((origin_Step.f kj6 a0_0 a0_1 l1 2 0 0).bind fun bt499 => ((origin_Check.f kj6 a0_0 a0_1 l1).bind fun t506 => (if t490 = 0 then ((origin_Check.f kj6 t485 t486 l1).bind fun t507 => (if t507 = 0 then (if t497 = 0 then ((origin_Check.f kj6 t492 t493 l1).bind fun t508 => (if t508 = 0 then (if t506 = 0 then (crossbarlaw16_OriginStaysValid.j1 kj6 bt499.2.2.2 t506 false a0_0 a0_1 bt499.1 bt499.2.1) else (crossbarlaw16_OriginStaysValid.j1 kj6 bt499.2.2.2 t506 (t490 != t506) a0_0 a0_1 bt499.1 bt499.2.1)) else (crossbarlaw16_OriginStaysValid.j1 kj6 bt499.2.2.2 t506 true a0_0 a0_1 bt499.1 bt499.2.1))) else (if t506 = 0 then (crossbarlaw16_OriginStaysValid.j1 kj6 bt499.2.2.2 t506 false a0_0 a0_1 bt499.1 bt499.2.1) else (crossbarlaw16_OriginStaysValid.j1 kj6 bt499.2.2.2 t506 (t490 != t506) a0_0 a0_1 bt499.1 bt499.2.1))) else (crossbarlaw16_OriginStaysValid.j1 kj6 bt499.2.2.2 t506 true a0_0 a0_1 bt499.1 bt499.2.1))) else (if t497 = 0 then ((origin_Check.f kj6 t492 t493 l1).bind fun t509 => (if t509 = 0 then (if t506 = 0 then (crossbarlaw16_OriginStaysValid.j1 kj6 bt499.2.2.2 t506 false a0_0 a0_1 bt499.1 bt499.2.1) else (crossbarlaw16_OriginStaysValid.j1 kj6 bt499.2.2.2 t506 (t490 != t506) a0_0 a0_1 bt499.1 bt499.2.1)) else (crossbarlaw16_OriginStaysValid.j1 kj6 bt499.2.2.2 t506 true a0_0 a0_1 bt499.1 bt499.2.1))) else (if t506 = 0 then (crossbarlaw16_OriginStaysValid.j1 kj6 bt499.2.2.2 t506 false a0_0 a0_1 bt499.1 bt499.2.1) else (crossbarlaw16_OriginStaysValid.j1 kj6 bt499.2.2.2 t506 (t490 != t506) a0_0 a0_1 bt499.1 bt499.2.1)))))) = some r := H
          have A19 := Aside0.mk A190
          clear A190
          replace H := Option.bind_eq_some_iff.mp H
          obtain ⟨⟨t499, t500, t501, t504⟩, A200, H⟩ := H
          replace H : ((origin_Check.f kj6 a0_0 a0_1 l1).bind fun t506 => (if t490 = 0 then ((origin_Check.f kj6 t485 t486 l1).bind fun t507 => (if t507 = 0 then (if t497 = 0 then ((origin_Check.f kj6 t492 t493 l1).bind fun t508 => (if t508 = 0 then (if t506 = 0 then (crossbarlaw16_OriginStaysValid.j1 kj6 t504 t506 false a0_0 a0_1 t499 t500) else (crossbarlaw16_OriginStaysValid.j1 kj6 t504 t506 (t490 != t506) a0_0 a0_1 t499 t500)) else (crossbarlaw16_OriginStaysValid.j1 kj6 t504 t506 true a0_0 a0_1 t499 t500))) else (if t506 = 0 then (crossbarlaw16_OriginStaysValid.j1 kj6 t504 t506 false a0_0 a0_1 t499 t500) else (crossbarlaw16_OriginStaysValid.j1 kj6 t504 t506 (t490 != t506) a0_0 a0_1 t499 t500))) else (crossbarlaw16_OriginStaysValid.j1 kj6 t504 t506 true a0_0 a0_1 t499 t500))) else (if t497 = 0 then ((origin_Check.f kj6 t492 t493 l1).bind fun t509 => (if t509 = 0 then (if t506 = 0 then (crossbarlaw16_OriginStaysValid.j1 kj6 t504 t506 false a0_0 a0_1 t499 t500) else (crossbarlaw16_OriginStaysValid.j1 kj6 t504 t506 (t490 != t506) a0_0 a0_1 t499 t500)) else (crossbarlaw16_OriginStaysValid.j1 kj6 t504 t506 true a0_0 a0_1 t499 t500))) else (if t506 = 0 then (crossbarlaw16_OriginStaysValid.j1 kj6 t504 t506 false a0_0 a0_1 t499 t500) else (crossbarlaw16_OriginStaysValid.j1 kj6 t504 t506 (t490 != t506) a0_0 a0_1 t499 t500))))) = some r := H
          have A20 := Aside0.mk A200
          clear A200
          replace H := Option.bind_eq_some_iff.mp H
          obtain ⟨t506, A210, H⟩ := H
          replace H : (if t490 = 0 then ((origin_Check.f kj6 t485 t486 l1).bind fun t507 => (if t507 = 0 then (if t497 = 0 then ((origin_Check.f kj6 t492 t493 l1).bind fun t508 => (if t508 = 0 then (if t506 = 0 then (crossbarlaw16_OriginStaysValid.j1 kj6 t504 t506 false a0_0 a0_1 t499 t500) else (crossbarlaw16_OriginStaysValid.j1 kj6 t504 t506 (t490 != t506) a0_0 a0_1 t499 t500)) else (crossbarlaw16_OriginStaysValid.j1 kj6 t504 t506 true a0_0 a0_1 t499 t500))) else (if t506 = 0 then (crossbarlaw16_OriginStaysValid.j1 kj6 t504 t506 false a0_0 a0_1 t499 t500) else (crossbarlaw16_OriginStaysValid.j1 kj6 t504 t506 (t490 != t506) a0_0 a0_1 t499 t500))) else (crossbarlaw16_OriginStaysValid.j1 kj6 t504 t506 true a0_0 a0_1 t499 t500))) else (if t497 = 0 then ((origin_Check.f kj6 t492 t493 l1).bind fun t509 => (if t509 = 0 then (if t506 = 0 then (crossbarlaw16_OriginStaysValid.j1 kj6 t504 t506 false a0_0 a0_1 t499 t500) else (crossbarlaw16_OriginStaysValid.j1 kj6 t504 t506 (t490 != t506) a0_0 a0_1 t499 t500)) else (crossbarlaw16_OriginStaysValid.j1 kj6 t504 t506 true a0_0 a0_1 t499 t500))) else (if t506 = 0 then (crossbarlaw16_OriginStaysValid.j1 kj6 t504 t506 false a0_0 a0_1 t499 t500) else (crossbarlaw16_OriginStaysValid.j1 kj6 t504 t506 (t490 != t506) a0_0 a0_1 t499 t500)))) = some r := H
          have A21 := Aside0.mk A210
          clear A210
          have HC22 := Aside0.mk H
          clear H
          have hnb23 := NB481_482.out
          have hnc23 := NB482_481.out
          have hcz24_0 : wc.cell? ⟨gb481, 0, none⟩ = some (.int .i64 a0_0) := (blk_cell BK481.out 0).trans rfl
          have hcz24_1 : wc.cell? ⟨gb481, 1, none⟩ = some (.string a0_1) := (blk_cell BK481.out 1).trans rfl
          have hfz24_0 := blk_frozen BK481.out 0
          have hfz24_1 := blk_frozen BK481.out 1
          have hcz25_0 : wc.cell? ⟨gb482, 0, none⟩ = some (.int .i64 a2_0) := (blk_cell BK482.out 0).trans rfl
          have hcz25_1 : wc.cell? ⟨gb482, 1, none⟩ = some (.int .i64 a2_1) := (blk_cell BK482.out 1).trans rfl
          have hcz25_2 : wc.cell? ⟨gb482, 2, none⟩ = some (.int .u8 a2_2) := (blk_cell BK482.out 2).trans rfl
          have hfz25_0 := blk_frozen BK482.out 0
          have hfz25_1 := blk_frozen BK482.out 1
          have hfz25_2 := blk_frozen BK482.out 2
          go_upto_region 9 with (first | ((with_reducible refine gate_callee (f := 24) rfl ?_); refine goesL_ (some 35) rfl rfl Tryd.func24 (by kernel_rfl) rfl #[.agg #[.int .i64 a0_0, .string a0_1], .slice A1 l1.length c1, .agg #[.int .i64 a2_0, .int .i64 a2_1, .int .u8 a2_2]] rfl (by (try simp only [List.map_toArray, List.map_cons, List.map_nil]); first | done | rfl | (simp only [List.length_drop, List.length_take]; rfl)) ?_; (with_reducible refine (origin_Step.calls kj6 a0_0 a0_1 _ _ l1 a2_0 a2_1 a2_2 t485 t486 t487 t490 _ ?side1 ?side2 A18.out).mono ?_); (case side1 => repeat (first | exact (Kd.C_below HR1.out HB.out) | (with_reducible refine Kd.C_alloc ?_ _) | (with_reducible refine Kd.C_drewN ?_ _) | (with_reducible refine Kd.C_drew ?_))); (case side2 => exact HC1.out); rintro e w26 ⟨v488, rfl, ho0, hb⟩; refine ⟨_, rfl, ?_⟩; have n0_ := Aside0.mk (Kd.R_lower ho0 (below_size (by repeat (first | (with_reducible first | exact HB.out | apply below_alloc | apply pw_below_drewN | apply below_drew1 | refine below_set ?_ GE481.out | refine below_set ?_ GE482.out) | exact HB.out)))); have n1_ := Aside0.mk (blk_below (g := gb481) (o := .cells #[.int .i64 a0_0, .string a0_1] 45 (0, 0)) (by (with_reducible repeat (first | refine blk_drewN ?_ _ | refine blk_drew ?_ | refine blk_alloc ?_ _)); exact BK481.out) hb); have n2_ := Aside0.mk (blk_below (g := gb482) (o := .cells #[.int .i64 a2_0, .int .i64 a2_1, .int .u8 a2_2] 47 (0, 0)) (by (with_reducible repeat (first | refine blk_drewN ?_ _ | refine blk_drew ?_ | refine blk_alloc ?_ _)); exact BK482.out) hb); have n3_ := Aside0.mk (below_step (by repeat (first | (with_reducible first | exact HB.out | apply below_alloc | apply pw_below_drewN | apply below_drew1 | refine below_set ?_ GE481.out | refine below_set ?_ GE482.out) | exact HB.out)) hb); clear BK481; clear BK482; clear HB; have HO489 := n0_; have BK481 := n1_; have BK482 := n2_; have HB := n3_; clear n0_ n1_ n2_ n3_; (try clear hb); (try clear hb2); (try clear hk); (try clear hi); (try clear ho0)) | ((with_reducible refine gate_dst (N := 9) rfl ?_); (try (refine gate_guard (by rfl) ?_; dsimp only)); refine box_event ?hg (N := 9) ?hd (cs := #[.int .i64 0, .string (⟨#[]⟩ : ByteArray)]) (t := 45) ?hr ?_; (case hd => rfl); (case hg => rfl); (case hr => first | (go_simp; done) | (go_simp; rfl)); intro gb491 hg w27 hbox hb; have n0_ := Aside0.mk (Kd.R_below (by (with_reducible repeat (first | apply Kd.R_alloc | apply Kd.R_drewN | apply Kd.R_drew)); exact HO489.out) hb); have n1_ := Aside0.mk (blk_below (g := gb481) (o := .cells #[.int .i64 a0_0, .string a0_1] 45 (0, 0)) (by (with_reducible repeat (first | refine blk_drewN ?_ _ | refine blk_drew ?_ | refine blk_alloc ?_ _)); exact BK481.out) hb); have n2_ := Aside0.mk (blk_below (g := gb482) (o := .cells #[.int .i64 a2_0, .int .i64 a2_1, .int .u8 a2_2] 47 (0, 0)) (by (with_reducible repeat (first | refine blk_drewN ?_ _ | refine blk_drew ?_ | refine blk_alloc ?_ _)); exact BK482.out) hb); have n3_ := Aside0.mk (below_step (by repeat (first | (with_reducible first | exact HB.out | apply below_alloc | apply pw_below_drewN | apply below_drew1 | refine below_set ?_ GE481.out | refine below_set ?_ GE482.out) | exact HB.out)) hb); have n4_ := Aside0.mk (hbox); have n5_ := Aside0.mk ((by rw [hg]; exact (below_size (by repeat (first | (with_reducible first | exact HB.out | apply below_alloc | apply pw_below_drewN | apply below_drew1 | refine below_set ?_ GE481.out | refine below_set ?_ GE482.out) | exact HB.out))) : w.heap.size ≤ gb491)); have n6_ := Aside0.mk ((by rw [hg]; exact (below_size (by repeat (first | (with_reducible first | exact HB.out | apply below_alloc | apply pw_below_drewN | apply below_drew1 | refine below_set ?_ GE481.out | refine below_set ?_ GE482.out) | exact HB.out))) : w.heap.size ≤ gb491)); have n7_ := Aside0.mk ((by rw [hg]; exact Nat.ne_of_lt (blk_lt (g := gb481) (o := .cells #[.int .i64 a0_0, .string a0_1] 45 (0, 0)) (by (with_reducible repeat (first | refine blk_drewN ?_ _ | refine blk_drew ?_ | refine blk_alloc ?_ _)); exact BK481.out)) : gb481 ≠ gb491)); have n8_ := Aside0.mk ((by rw [hg]; exact Nat.ne_of_gt (blk_lt (g := gb481) (o := .cells #[.int .i64 a0_0, .string a0_1] 45 (0, 0)) (by (with_reducible repeat (first | refine blk_drewN ?_ _ | refine blk_drew ?_ | refine blk_alloc ?_ _)); exact BK481.out)) : gb491 ≠ gb481)); have n9_ := Aside0.mk ((by rw [hg]; exact Nat.ne_of_lt (blk_lt (g := gb482) (o := .cells #[.int .i64 a2_0, .int .i64 a2_1, .int .u8 a2_2] 47 (0, 0)) (by (with_reducible repeat (first | refine blk_drewN ?_ _ | refine blk_drew ?_ | refine blk_alloc ?_ _)); exact BK482.out)) : gb482 ≠ gb491)); have n10_ := Aside0.mk ((by rw [hg]; exact Nat.ne_of_gt (blk_lt (g := gb482) (o := .cells #[.int .i64 a2_0, .int .i64 a2_1, .int .u8 a2_2] 47 (0, 0)) (by (with_reducible repeat (first | refine blk_drewN ?_ _ | refine blk_drew ?_ | refine blk_alloc ?_ _)); exact BK482.out)) : gb491 ≠ gb482)); clear HO489; clear BK481; clear BK482; clear HB; have HO489 := n0_; have BK481 := n1_; have BK482 := n2_; have HB := n3_; have BK491 := n4_; have GW491 := n5_; have GE491 := n6_; have NB481_491 := n7_; have NB491_481 := n8_; have NB482_491 := n9_; have NB491_482 := n10_; clear n0_ n1_ n2_ n3_ n4_ n5_ n6_ n7_ n8_ n9_ n10_; clear hb hbox hg; have hnb28 := NB491_481.out; have hnc28 := NB481_491.out; have hnb29 := NB491_482.out; have hnc29 := NB482_491.out; have hcz30_0 : w27.cell? ⟨gb491, 0, none⟩ = some (.int .i64 0) := (blk_cell BK491.out 0).trans rfl; have hcz30_1 : w27.cell? ⟨gb491, 1, none⟩ = some (.string (⟨#[]⟩ : ByteArray)) := (blk_cell BK491.out 1).trans rfl; have hfz30_0 := blk_frozen BK491.out 0; have hfz30_1 := blk_frozen BK491.out 1) | ((with_reducible refine gate_callee (f := 29) rfl ?_); refine goesL_ (some 42) rfl rfl Tryd.func29 (by kernel_rfl) rfl #[.slice A1 l1.length c1, .string a3] rfl (by (try simp only [List.map_toArray, List.map_cons, List.map_nil]); first | done | rfl | (simp only [List.length_drop, List.length_take]; rfl)) ?_; (with_reducible refine (origin_Dial.calls kj6 _ _ l1 a3 t492 t493 t494 t497 _ ?side1 ?side2 A19.out).mono ?_); (case side1 => exact Kd.C_below HR1.out (by repeat (first | (with_reducible first | exact HB.out | apply below_alloc | apply pw_below_drewN | apply below_drew1 | refine below_set ?_ GE481.out | refine below_set ?_ GE482.out | refine below_set ?_ GE491.out) | exact HB.out))); (case side2 => exact HC1.out); rintro e w31 ⟨v495, rfl, ho0, hb⟩; refine ⟨_, rfl, ?_⟩; have n0_ := Aside0.mk (Kd.R_elder' (by (with_reducible repeat (first | apply Kd.R_alloc | apply Kd.R_drewN | apply Kd.R_drew)); exact (Kd.R_mono (Kd.R_far (p := ⟨gb491, 1, none⟩) (Kd.R_far (p := ⟨gb491, 0, none⟩) (Kd.R_types HO489.out BK491.out (by decide)) (fun _ hk => hk.2) (.int .i64 t485)) (fun _ hk => hk.2) (.string t486)) (fun _ h_ => h_.1))) (Kd.R_base ho0) hb); have n1_ := Aside0.mk (Kd.R_lower (Kd.R_new' ho0 (Kd.R_lt (by (with_reducible repeat (first | apply Kd.R_alloc | apply Kd.R_drewN | apply Kd.R_drew)); exact (Kd.R_mono (Kd.R_far (p := ⟨gb491, 1, none⟩) (Kd.R_far (p := ⟨gb491, 0, none⟩) (Kd.R_types HO489.out BK491.out (by decide)) (fun _ hk => hk.2) (.int .i64 t485)) (fun _ hk => hk.2) (.string t486)) (fun _ h_ => h_.1))))) (below_size (by repeat (first | (with_reducible first | exact HB.out | apply below_alloc | apply pw_below_drewN | apply below_drew1 | refine below_set ?_ GE481.out | refine below_set ?_ GE482.out | refine below_set ?_ GE491.out) | exact HB.out)))); have n2_ := Aside0.mk (blk_below (g := gb481) (o := .cells #[.int .i64 a0_0, .string a0_1] 45 (0, 0)) (by (with_reducible repeat (first | refine blk_drewN ?_ _ | refine blk_drew ?_ | refine blk_alloc ?_ _)); refine blk_far ?_ NB481_491.out _; (with_reducible repeat (first | refine blk_drewN ?_ _ | refine blk_drew ?_ | refine blk_alloc ?_ _)); refine blk_far ?_ NB481_491.out _; (with_reducible repeat (first | refine blk_drewN ?_ _ | refine blk_drew ?_ | refine blk_alloc ?_ _)); exact BK481.out) hb); have n3_ := Aside0.mk (blk_below (g := gb482) (o := .cells #[.int .i64 a2_0, .int .i64 a2_1, .int .u8 a2_2] 47 (0, 0)) (by (with_reducible repeat (first | refine blk_drewN ?_ _ | refine blk_drew ?_ | refine blk_alloc ?_ _)); refine blk_far ?_ NB482_491.out _; (with_reducible repeat (first | refine blk_drewN ?_ _ | refine blk_drew ?_ | refine blk_alloc ?_ _)); refine blk_far ?_ NB482_491.out _; (with_reducible repeat (first | refine blk_drewN ?_ _ | refine blk_drew ?_ | refine blk_alloc ?_ _)); exact BK482.out) hb); have n4_ := Aside0.mk (blk_below (g := gb491) (o := .cells #[.int .i64 t485, .string t486] 45 (0, 0)) (by (with_reducible repeat (first | refine blk_drewN ?_ _ | refine blk_drew ?_ | refine blk_alloc ?_ _)); refine blk_put (cs := #[.int .i64 t485, .string (⟨#[]⟩ : ByteArray)]) ?_ 1 _ rfl; (with_reducible repeat (first | refine blk_drewN ?_ _ | refine blk_drew ?_ | refine blk_alloc ?_ _)); refine blk_put (cs := #[.int .i64 0, .string (⟨#[]⟩ : ByteArray)]) ?_ 0 _ rfl; (with_reducible repeat (first | refine blk_drewN ?_ _ | refine blk_drew ?_ | refine blk_alloc ?_ _)); exact BK491.out) hb); have n5_ := Aside0.mk (below_step (by repeat (first | (with_reducible first | exact HB.out | apply below_alloc | apply pw_below_drewN | apply below_drew1 | refine below_set ?_ GE481.out | refine below_set ?_ GE482.out | refine below_set ?_ GE491.out) | exact HB.out)) hb); clear HO489; clear BK481; clear BK482; clear BK491; clear HB; have HO489 := n0_; have HO496 := n1_; have BK481 := n2_; have BK482 := n3_; have BK491 := n4_; have HB := n5_; clear n0_ n1_ n2_ n3_ n4_ n5_; (try clear hb); (try clear hb2); (try clear hk); (try clear hi); (try clear ho0)) | ((with_reducible refine gate_dst (N := 12) rfl ?_); (try (refine gate_guard (by rfl) ?_; dsimp only)); refine box_event ?hg (N := 12) ?hd (cs := #[.int .i64 0, .string (⟨#[]⟩ : ByteArray)]) (t := 45) ?hr ?_; (case hd => rfl); (case hg => rfl); (case hr => first | (go_simp; done) | (go_simp; rfl)); intro gb498 hg w32 hbox hb; have n0_ := Aside0.mk (Kd.R_below (by (with_reducible repeat (first | apply Kd.R_alloc | apply Kd.R_drewN | apply Kd.R_drew)); exact HO489.out) hb); have n1_ := Aside0.mk (Kd.R_below (by (with_reducible repeat (first | apply Kd.R_alloc | apply Kd.R_drewN | apply Kd.R_drew)); exact HO496.out) hb); have n2_ := Aside0.mk (blk_below (g := gb481) (o := .cells #[.int .i64 a0_0, .string a0_1] 45 (0, 0)) (by (with_reducible repeat (first | refine blk_drewN ?_ _ | refine blk_drew ?_ | refine blk_alloc ?_ _)); exact BK481.out) hb); have n3_ := Aside0.mk (blk_below (g := gb482) (o := .cells #[.int .i64 a2_0, .int .i64 a2_1, .int .u8 a2_2] 47 (0, 0)) (by (with_reducible repeat (first | refine blk_drewN ?_ _ | refine blk_drew ?_ | refine blk_alloc ?_ _)); exact BK482.out) hb); have n4_ := Aside0.mk (blk_below (g := gb491) (o := .cells #[.int .i64 t485, .string t486] 45 (0, 0)) (by (with_reducible repeat (first | refine blk_drewN ?_ _ | refine blk_drew ?_ | refine blk_alloc ?_ _)); exact BK491.out) hb); have n5_ := Aside0.mk (below_step (by repeat (first | (with_reducible first | exact HB.out | apply below_alloc | apply pw_below_drewN | apply below_drew1 | refine below_set ?_ GE481.out | refine below_set ?_ GE482.out | refine below_set ?_ GE491.out) | exact HB.out)) hb); have n6_ := Aside0.mk (hbox); have n7_ := Aside0.mk ((by rw [hg]; exact (below_size (by repeat (first | (with_reducible first | exact HB.out | apply below_alloc | apply pw_below_drewN | apply below_drew1 | refine below_set ?_ GE481.out | refine below_set ?_ GE482.out | refine below_set ?_ GE491.out) | exact HB.out))) : w.heap.size ≤ gb498)); have n8_ := Aside0.mk ((by rw [hg]; exact (below_size (by repeat (first | (with_reducible first | exact HB.out | apply below_alloc | apply pw_below_drewN | apply below_drew1 | refine below_set ?_ GE481.out | refine below_set ?_ GE482.out | refine below_set ?_ GE491.out) | exact HB.out))) : w.heap.size ≤ gb498)); have n9_ := Aside0.mk ((by rw [hg]; exact Nat.ne_of_lt (blk_lt (g := gb481) (o := .cells #[.int .i64 a0_0, .string a0_1] 45 (0, 0)) (by (with_reducible repeat (first | refine blk_drewN ?_ _ | refine blk_drew ?_ | refine blk_alloc ?_ _)); exact BK481.out)) : gb481 ≠ gb498)); have n10_ := Aside0.mk ((by rw [hg]; exact Nat.ne_of_gt (blk_lt (g := gb481) (o := .cells #[.int .i64 a0_0, .string a0_1] 45 (0, 0)) (by (with_reducible repeat (first | refine blk_drewN ?_ _ | refine blk_drew ?_ | refine blk_alloc ?_ _)); exact BK481.out)) : gb498 ≠ gb481)); have n11_ := Aside0.mk ((by rw [hg]; exact Nat.ne_of_lt (blk_lt (g := gb482) (o := .cells #[.int .i64 a2_0, .int .i64 a2_1, .int .u8 a2_2] 47 (0, 0)) (by (with_reducible repeat (first | refine blk_drewN ?_ _ | refine blk_drew ?_ | refine blk_alloc ?_ _)); exact BK482.out)) : gb482 ≠ gb498)); have n12_ := Aside0.mk ((by rw [hg]; exact Nat.ne_of_gt (blk_lt (g := gb482) (o := .cells #[.int .i64 a2_0, .int .i64 a2_1, .int .u8 a2_2] 47 (0, 0)) (by (with_reducible repeat (first | refine blk_drewN ?_ _ | refine blk_drew ?_ | refine blk_alloc ?_ _)); exact BK482.out)) : gb498 ≠ gb482)); have n13_ := Aside0.mk ((by rw [hg]; exact Nat.ne_of_lt (blk_lt (g := gb491) (o := .cells #[.int .i64 t485, .string t486] 45 (0, 0)) (by (with_reducible repeat (first | refine blk_drewN ?_ _ | refine blk_drew ?_ | refine blk_alloc ?_ _)); exact BK491.out)) : gb491 ≠ gb498)); have n14_ := Aside0.mk ((by rw [hg]; exact Nat.ne_of_gt (blk_lt (g := gb491) (o := .cells #[.int .i64 t485, .string t486] 45 (0, 0)) (by (with_reducible repeat (first | refine blk_drewN ?_ _ | refine blk_drew ?_ | refine blk_alloc ?_ _)); exact BK491.out)) : gb498 ≠ gb491)); clear HO489; clear HO496; clear BK481; clear BK482; clear BK491; clear HB; have HO489 := n0_; have HO496 := n1_; have BK481 := n2_; have BK482 := n3_; have BK491 := n4_; have HB := n5_; have BK498 := n6_; have GW498 := n7_; have GE498 := n8_; have NB481_498 := n9_; have NB498_481 := n10_; have NB482_498 := n11_; have NB498_482 := n12_; have NB491_498 := n13_; have NB498_491 := n14_; clear n0_ n1_ n2_ n3_ n4_ n5_ n6_ n7_ n8_ n9_ n10_ n11_ n12_ n13_ n14_; clear hb hbox hg; have hnb33 := NB498_481.out; have hnc33 := NB481_498.out; have hnb34 := NB498_482.out; have hnc34 := NB482_498.out; have hnb35 := NB498_491.out; have hnc35 := NB491_498.out; have hcz36_0 : w32.cell? ⟨gb498, 0, none⟩ = some (.int .i64 0) := (blk_cell BK498.out 0).trans rfl; have hcz36_1 : w32.cell? ⟨gb498, 1, none⟩ = some (.string (⟨#[]⟩ : ByteArray)) := (blk_cell BK498.out 1).trans rfl; have hfz36_0 := blk_frozen BK498.out 0; have hfz36_1 := blk_frozen BK498.out 1; have hcz37_0 : w32.cell? ⟨gb481, 0, none⟩ = some (.int .i64 a0_0) := (blk_cell BK481.out 0).trans rfl; have hcz37_1 : w32.cell? ⟨gb481, 1, none⟩ = some (.string a0_1) := (blk_cell BK481.out 1).trans rfl; have hfz37_0 := blk_frozen BK481.out 0; have hfz37_1 := blk_frozen BK481.out 1) | ((with_reducible refine gate_callee (f := 24) rfl ?_); refine goesL_ (some 50) rfl rfl Tryd.func24 (by kernel_rfl) rfl #[.agg #[.int .i64 a0_0, .string a0_1], .slice A1 l1.length c1, .agg #[.int .i64 2, .int .i64 0, .int .u8 0]] rfl (by (try simp only [List.map_toArray, List.map_cons, List.map_nil]); first | done | rfl | (simp only [List.length_drop, List.length_take]; rfl)) ?_; (with_reducible refine (origin_Step.calls kj6 a0_0 a0_1 _ _ l1 2 0 0 t499 t500 t501 t504 _ ?side1 ?side2 A20.out).mono ?_); (case side1 => exact Kd.C_below HR1.out (by repeat (first | (with_reducible first | exact HB.out | apply below_alloc | apply pw_below_drewN | apply below_drew1 | refine below_set ?_ GE481.out | refine below_set ?_ GE482.out | refine below_set ?_ GE491.out | refine below_set ?_ GE498.out) | exact HB.out))); (case side2 => exact HC1.out); rintro e w38 ⟨v502, rfl, ho0, hb⟩; refine ⟨_, rfl, ?_⟩; have n0_ := Aside0.mk (Kd.R_elder' (by (with_reducible repeat (first | apply Kd.R_alloc | apply Kd.R_drewN | apply Kd.R_drew)); exact (Kd.R_mono (Kd.R_far (p := ⟨gb498, 1, none⟩) (Kd.R_far (p := ⟨gb498, 0, none⟩) (Kd.R_types HO489.out BK498.out (by decide)) (fun _ hk => hk.2) (.int .i64 t492)) (fun _ hk => hk.2) (.string t493)) (fun _ h_ => h_.1))) (Kd.R_base ho0) hb); have n1_ := Aside0.mk (Kd.R_elder' (by (with_reducible repeat (first | apply Kd.R_alloc | apply Kd.R_drewN | apply Kd.R_drew)); exact (Kd.R_mono (Kd.R_far (p := ⟨gb498, 1, none⟩) (Kd.R_far (p := ⟨gb498, 0, none⟩) (Kd.R_types HO496.out BK498.out (by decide)) (fun _ hk => hk.2) (.int .i64 t492)) (fun _ hk => hk.2) (.string t493)) (fun _ h_ => h_.1))) (Kd.R_base ho0) hb); have n2_ := Aside0.mk (Kd.R_lower (Kd.R_new' (Kd.R_new' ho0 (Kd.R_lt (by (with_reducible repeat (first | apply Kd.R_alloc | apply Kd.R_drewN | apply Kd.R_drew)); exact (Kd.R_mono (Kd.R_far (p := ⟨gb498, 1, none⟩) (Kd.R_far (p := ⟨gb498, 0, none⟩) (Kd.R_types HO489.out BK498.out (by decide)) (fun _ hk => hk.2) (.int .i64 t492)) (fun _ hk => hk.2) (.string t493)) (fun _ h_ => h_.1))))) (Kd.R_lt (by (with_reducible repeat (first | apply Kd.R_alloc | apply Kd.R_drewN | apply Kd.R_drew)); exact (Kd.R_mono (Kd.R_far (p := ⟨gb498, 1, none⟩) (Kd.R_far (p := ⟨gb498, 0, none⟩) (Kd.R_types HO496.out BK498.out (by decide)) (fun _ hk => hk.2) (.int .i64 t492)) (fun _ hk => hk.2) (.string t493)) (fun _ h_ => h_.1))))) (below_size (by repeat (first | (with_reducible first | exact HB.out | apply below_alloc | apply pw_below_drewN | apply below_drew1 | refine below_set ?_ GE481.out | refine below_set ?_ GE482.out | refine below_set ?_ GE491.out | refine below_set ?_ GE498.out) | exact HB.out)))); have n3_ := Aside0.mk (blk_below (g := gb481) (o := .cells #[.int .i64 a0_0, .string a0_1] 45 (0, 0)) (by (with_reducible repeat (first | refine blk_drewN ?_ _ | refine blk_drew ?_ | refine blk_alloc ?_ _)); refine blk_far ?_ NB481_498.out _; (with_reducible repeat (first | refine blk_drewN ?_ _ | refine blk_drew ?_ | refine blk_alloc ?_ _)); refine blk_far ?_ NB481_498.out _; (with_reducible repeat (first | refine blk_drewN ?_ _ | refine blk_drew ?_ | refine blk_alloc ?_ _)); exact BK481.out) hb); have n4_ := Aside0.mk (blk_below (g := gb482) (o := .cells #[.int .i64 a2_0, .int .i64 a2_1, .int .u8 a2_2] 47 (0, 0)) (by (with_reducible repeat (first | refine blk_drewN ?_ _ | refine blk_drew ?_ | refine blk_alloc ?_ _)); refine blk_far ?_ NB482_498.out _; (with_reducible repeat (first | refine blk_drewN ?_ _ | refine blk_drew ?_ | refine blk_alloc ?_ _)); refine blk_far ?_ NB482_498.out _; (with_reducible repeat (first | refine blk_drewN ?_ _ | refine blk_drew ?_ | refine blk_alloc ?_ _)); exact BK482.out) hb); have n5_ := Aside0.mk (blk_below (g := gb491) (o := .cells #[.int .i64 t485, .string t486] 45 (0, 0)) (by (with_reducible repeat (first | refine blk_drewN ?_ _ | refine blk_drew ?_ | refine blk_alloc ?_ _)); refine blk_far ?_ NB491_498.out _; (with_reducible repeat (first | refine blk_drewN ?_ _ | refine blk_drew ?_ | refine blk_alloc ?_ _)); refine blk_far ?_ NB491_498.out _; (with_reducible repeat (first | refine blk_drewN ?_ _ | refine blk_drew ?_ | refine blk_alloc ?_ _)); exact BK491.out) hb); have n6_ := Aside0.mk (blk_below (g := gb498) (o := .cells #[.int .i64 t492, .string t493] 45 (0, 0)) (by (with_reducible repeat (first | refine blk_drewN ?_ _ | refine blk_drew ?_ | refine blk_alloc ?_ _)); refine blk_put (cs := #[.int .i64 t492, .string (⟨#[]⟩ : ByteArray)]) ?_ 1 _ rfl; (with_reducible repeat (first | refine blk_drewN ?_ _ | refine blk_drew ?_ | refine blk_alloc ?_ _)); refine blk_put (cs := #[.int .i64 0, .string (⟨#[]⟩ : ByteArray)]) ?_ 0 _ rfl; (with_reducible repeat (first | refine blk_drewN ?_ _ | refine blk_drew ?_ | refine blk_alloc ?_ _)); exact BK498.out) hb); have n7_ := Aside0.mk (below_step (by repeat (first | (with_reducible first | exact HB.out | apply below_alloc | apply pw_below_drewN | apply below_drew1 | refine below_set ?_ GE481.out | refine below_set ?_ GE482.out | refine below_set ?_ GE491.out | refine below_set ?_ GE498.out) | exact HB.out)) hb); clear HO489; clear HO496; clear BK481; clear BK482; clear BK491; clear BK498; clear HB; have HO489 := n0_; have HO496 := n1_; have HO503 := n2_; have BK481 := n3_; have BK482 := n4_; have BK491 := n5_; have BK498 := n6_; have HB := n7_; clear n0_ n1_ n2_ n3_ n4_ n5_ n6_ n7_; (try clear hb); (try clear hb2); (try clear hk); (try clear hi); (try clear ho0)) | ((with_reducible refine gate_dst (N := 15) rfl ?_); (try (refine gate_guard (by rfl) ?_; dsimp only)); refine box_event ?hg (N := 15) ?hd (cs := #[.int .i64 0, .string (⟨#[]⟩ : ByteArray)]) (t := 45) ?hr ?_; (case hd => rfl); (case hg => rfl); (case hr => first | (go_simp; done) | (go_simp; rfl)); intro gb505 hg w39 hbox hb; have n0_ := Aside0.mk (Kd.R_below (by (with_reducible repeat (first | apply Kd.R_alloc | apply Kd.R_drewN | apply Kd.R_drew)); exact HO489.out) hb); have n1_ := Aside0.mk (Kd.R_below (by (with_reducible repeat (first | apply Kd.R_alloc | apply Kd.R_drewN | apply Kd.R_drew)); exact HO496.out) hb); have n2_ := Aside0.mk (Kd.R_below (by (with_reducible repeat (first | apply Kd.R_alloc | apply Kd.R_drewN | apply Kd.R_drew)); exact HO503.out) hb); have n3_ := Aside0.mk (blk_below (g := gb481) (o := .cells #[.int .i64 a0_0, .string a0_1] 45 (0, 0)) (by (with_reducible repeat (first | refine blk_drewN ?_ _ | refine blk_drew ?_ | refine blk_alloc ?_ _)); exact BK481.out) hb); have n4_ := Aside0.mk (blk_below (g := gb482) (o := .cells #[.int .i64 a2_0, .int .i64 a2_1, .int .u8 a2_2] 47 (0, 0)) (by (with_reducible repeat (first | refine blk_drewN ?_ _ | refine blk_drew ?_ | refine blk_alloc ?_ _)); exact BK482.out) hb); have n5_ := Aside0.mk (blk_below (g := gb491) (o := .cells #[.int .i64 t485, .string t486] 45 (0, 0)) (by (with_reducible repeat (first | refine blk_drewN ?_ _ | refine blk_drew ?_ | refine blk_alloc ?_ _)); exact BK491.out) hb); have n6_ := Aside0.mk (blk_below (g := gb498) (o := .cells #[.int .i64 t492, .string t493] 45 (0, 0)) (by (with_reducible repeat (first | refine blk_drewN ?_ _ | refine blk_drew ?_ | refine blk_alloc ?_ _)); exact BK498.out) hb); have n7_ := Aside0.mk (below_step (by repeat (first | (with_reducible first | exact HB.out | apply below_alloc | apply pw_below_drewN | apply below_drew1 | refine below_set ?_ GE481.out | refine below_set ?_ GE482.out | refine below_set ?_ GE491.out | refine below_set ?_ GE498.out) | exact HB.out)) hb); have n8_ := Aside0.mk (hbox); have n9_ := Aside0.mk ((by rw [hg]; exact (below_size (by repeat (first | (with_reducible first | exact HB.out | apply below_alloc | apply pw_below_drewN | apply below_drew1 | refine below_set ?_ GE481.out | refine below_set ?_ GE482.out | refine below_set ?_ GE491.out | refine below_set ?_ GE498.out) | exact HB.out))) : w.heap.size ≤ gb505)); have n10_ := Aside0.mk ((by rw [hg]; exact (below_size (by repeat (first | (with_reducible first | exact HB.out | apply below_alloc | apply pw_below_drewN | apply below_drew1 | refine below_set ?_ GE481.out | refine below_set ?_ GE482.out | refine below_set ?_ GE491.out | refine below_set ?_ GE498.out) | exact HB.out))) : w.heap.size ≤ gb505)); have n11_ := Aside0.mk ((by rw [hg]; exact Nat.ne_of_lt (blk_lt (g := gb481) (o := .cells #[.int .i64 a0_0, .string a0_1] 45 (0, 0)) (by (with_reducible repeat (first | refine blk_drewN ?_ _ | refine blk_drew ?_ | refine blk_alloc ?_ _)); exact BK481.out)) : gb481 ≠ gb505)); have n12_ := Aside0.mk ((by rw [hg]; exact Nat.ne_of_gt (blk_lt (g := gb481) (o := .cells #[.int .i64 a0_0, .string a0_1] 45 (0, 0)) (by (with_reducible repeat (first | refine blk_drewN ?_ _ | refine blk_drew ?_ | refine blk_alloc ?_ _)); exact BK481.out)) : gb505 ≠ gb481)); have n13_ := Aside0.mk ((by rw [hg]; exact Nat.ne_of_lt (blk_lt (g := gb482) (o := .cells #[.int .i64 a2_0, .int .i64 a2_1, .int .u8 a2_2] 47 (0, 0)) (by (with_reducible repeat (first | refine blk_drewN ?_ _ | refine blk_drew ?_ | refine blk_alloc ?_ _)); exact BK482.out)) : gb482 ≠ gb505)); have n14_ := Aside0.mk ((by rw [hg]; exact Nat.ne_of_gt (blk_lt (g := gb482) (o := .cells #[.int .i64 a2_0, .int .i64 a2_1, .int .u8 a2_2] 47 (0, 0)) (by (with_reducible repeat (first | refine blk_drewN ?_ _ | refine blk_drew ?_ | refine blk_alloc ?_ _)); exact BK482.out)) : gb505 ≠ gb482)); have n15_ := Aside0.mk ((by rw [hg]; exact Nat.ne_of_lt (blk_lt (g := gb491) (o := .cells #[.int .i64 t485, .string t486] 45 (0, 0)) (by (with_reducible repeat (first | refine blk_drewN ?_ _ | refine blk_drew ?_ | refine blk_alloc ?_ _)); exact BK491.out)) : gb491 ≠ gb505)); have n16_ := Aside0.mk ((by rw [hg]; exact Nat.ne_of_gt (blk_lt (g := gb491) (o := .cells #[.int .i64 t485, .string t486] 45 (0, 0)) (by (with_reducible repeat (first | refine blk_drewN ?_ _ | refine blk_drew ?_ | refine blk_alloc ?_ _)); exact BK491.out)) : gb505 ≠ gb491)); have n17_ := Aside0.mk ((by rw [hg]; exact Nat.ne_of_lt (blk_lt (g := gb498) (o := .cells #[.int .i64 t492, .string t493] 45 (0, 0)) (by (with_reducible repeat (first | refine blk_drewN ?_ _ | refine blk_drew ?_ | refine blk_alloc ?_ _)); exact BK498.out)) : gb498 ≠ gb505)); have n18_ := Aside0.mk ((by rw [hg]; exact Nat.ne_of_gt (blk_lt (g := gb498) (o := .cells #[.int .i64 t492, .string t493] 45 (0, 0)) (by (with_reducible repeat (first | refine blk_drewN ?_ _ | refine blk_drew ?_ | refine blk_alloc ?_ _)); exact BK498.out)) : gb505 ≠ gb498)); clear HO489; clear HO496; clear HO503; clear BK481; clear BK482; clear BK491; clear BK498; clear HB; have HO489 := n0_; have HO496 := n1_; have HO503 := n2_; have BK481 := n3_; have BK482 := n4_; have BK491 := n5_; have BK498 := n6_; have HB := n7_; have BK505 := n8_; have GW505 := n9_; have GE505 := n10_; have NB481_505 := n11_; have NB505_481 := n12_; have NB482_505 := n13_; have NB505_482 := n14_; have NB491_505 := n15_; have NB505_491 := n16_; have NB498_505 := n17_; have NB505_498 := n18_; clear n0_ n1_ n2_ n3_ n4_ n5_ n6_ n7_ n8_ n9_ n10_ n11_ n12_ n13_ n14_ n15_ n16_ n17_ n18_; clear hb hbox hg; have hnb40 := NB505_481.out; have hnc40 := NB481_505.out; have hnb41 := NB505_482.out; have hnc41 := NB482_505.out; have hnb42 := NB505_491.out; have hnc42 := NB491_505.out; have hnb43 := NB505_498.out; have hnc43 := NB498_505.out; have hcz44_0 : w39.cell? ⟨gb505, 0, none⟩ = some (.int .i64 0) := (blk_cell BK505.out 0).trans rfl; have hcz44_1 : w39.cell? ⟨gb505, 1, none⟩ = some (.string (⟨#[]⟩ : ByteArray)) := (blk_cell BK505.out 1).trans rfl; have hfz44_0 := blk_frozen BK505.out 0; have hfz44_1 := blk_frozen BK505.out 1; have hcz45_0 : w39.cell? ⟨gb481, 0, none⟩ = some (.int .i64 a0_0) := (blk_cell BK481.out 0).trans rfl; have hcz45_1 : w39.cell? ⟨gb481, 1, none⟩ = some (.string a0_1) := (blk_cell BK481.out 1).trans rfl; have hfz45_0 := blk_frozen BK481.out 0; have hfz45_1 := blk_frozen BK481.out 1) | ((with_reducible refine gate_callee (f := 27) rfl ?_); refine goesL_ (some 56) rfl rfl Tryd.func27 (by kernel_rfl) rfl #[.agg #[.int .i64 a0_0, .string a0_1], .slice A1 l1.length c1] rfl (by (try simp only [List.map_toArray, List.map_cons, List.map_nil]); first | done | rfl | (simp only [List.length_drop, List.length_take]; rfl)) ?_; (with_reducible refine (origin_Check.calls kj6 a0_0 a0_1 _ _ l1 t506 _ ?side1 ?side2 A21.out).mono ?_); (case side1 => exact Kd.C_below HR1.out (by repeat (first | (with_reducible first | exact HB.out | apply below_alloc | apply pw_below_drewN | apply below_drew1 | refine below_set ?_ GE481.out | refine below_set ?_ GE482.out | refine below_set ?_ GE491.out | refine below_set ?_ GE498.out | refine below_set ?_ GE505.out) | exact HB.out))); (case side2 => exact HC1.out); rintro e w46 ⟨rfl, hb⟩; refine ⟨_, rfl, ?_⟩; have n0_ := Aside0.mk (Kd.R_below (by (with_reducible repeat (first | apply Kd.R_alloc | apply Kd.R_drewN | apply Kd.R_drew)); exact (Kd.R_mono (Kd.R_far (p := ⟨gb505, 1, none⟩) (Kd.R_far (p := ⟨gb505, 0, none⟩) (Kd.R_types HO489.out BK505.out (by decide)) (fun _ hk => hk.2) (.int .i64 t499)) (fun _ hk => hk.2) (.string t500)) (fun _ h_ => h_.1))) hb); have n1_ := Aside0.mk (Kd.R_below (by (with_reducible repeat (first | apply Kd.R_alloc | apply Kd.R_drewN | apply Kd.R_drew)); exact (Kd.R_mono (Kd.R_far (p := ⟨gb505, 1, none⟩) (Kd.R_far (p := ⟨gb505, 0, none⟩) (Kd.R_types HO496.out BK505.out (by decide)) (fun _ hk => hk.2) (.int .i64 t499)) (fun _ hk => hk.2) (.string t500)) (fun _ h_ => h_.1))) hb); have n2_ := Aside0.mk (Kd.R_below (by (with_reducible repeat (first | apply Kd.R_alloc | apply Kd.R_drewN | apply Kd.R_drew)); exact (Kd.R_mono (Kd.R_far (p := ⟨gb505, 1, none⟩) (Kd.R_far (p := ⟨gb505, 0, none⟩) (Kd.R_types HO503.out BK505.out (by decide)) (fun _ hk => hk.2) (.int .i64 t499)) (fun _ hk => hk.2) (.string t500)) (fun _ h_ => h_.1))) hb); have n3_ := Aside0.mk (blk_below (g := gb481) (o := .cells #[.int .i64 a0_0, .string a0_1] 45 (0, 0)) (by (with_reducible repeat (first | refine blk_drewN ?_ _ | refine blk_drew ?_ | refine blk_alloc ?_ _)); refine blk_far ?_ NB481_505.out _; (with_reducible repeat (first | refine blk_drewN ?_ _ | refine blk_drew ?_ | refine blk_alloc ?_ _)); refine blk_far ?_ NB481_505.out _; (with_reducible repeat (first | refine blk_drewN ?_ _ | refine blk_drew ?_ | refine blk_alloc ?_ _)); exact BK481.out) hb); have n4_ := Aside0.mk (blk_below (g := gb482) (o := .cells #[.int .i64 a2_0, .int .i64 a2_1, .int .u8 a2_2] 47 (0, 0)) (by (with_reducible repeat (first | refine blk_drewN ?_ _ | refine blk_drew ?_ | refine blk_alloc ?_ _)); refine blk_far ?_ NB482_505.out _; (with_reducible repeat (first | refine blk_drewN ?_ _ | refine blk_drew ?_ | refine blk_alloc ?_ _)); refine blk_far ?_ NB482_505.out _; (with_reducible repeat (first | refine blk_drewN ?_ _ | refine blk_drew ?_ | refine blk_alloc ?_ _)); exact BK482.out) hb); have n5_ := Aside0.mk (blk_below (g := gb491) (o := .cells #[.int .i64 t485, .string t486] 45 (0, 0)) (by (with_reducible repeat (first | refine blk_drewN ?_ _ | refine blk_drew ?_ | refine blk_alloc ?_ _)); refine blk_far ?_ NB491_505.out _; (with_reducible repeat (first | refine blk_drewN ?_ _ | refine blk_drew ?_ | refine blk_alloc ?_ _)); refine blk_far ?_ NB491_505.out _; (with_reducible repeat (first | refine blk_drewN ?_ _ | refine blk_drew ?_ | refine blk_alloc ?_ _)); exact BK491.out) hb); have n6_ := Aside0.mk (blk_below (g := gb498) (o := .cells #[.int .i64 t492, .string t493] 45 (0, 0)) (by (with_reducible repeat (first | refine blk_drewN ?_ _ | refine blk_drew ?_ | refine blk_alloc ?_ _)); refine blk_far ?_ NB498_505.out _; (with_reducible repeat (first | refine blk_drewN ?_ _ | refine blk_drew ?_ | refine blk_alloc ?_ _)); refine blk_far ?_ NB498_505.out _; (with_reducible repeat (first | refine blk_drewN ?_ _ | refine blk_drew ?_ | refine blk_alloc ?_ _)); exact BK498.out) hb); have n7_ := Aside0.mk (blk_below (g := gb505) (o := .cells #[.int .i64 t499, .string t500] 45 (0, 0)) (by (with_reducible repeat (first | refine blk_drewN ?_ _ | refine blk_drew ?_ | refine blk_alloc ?_ _)); refine blk_put (cs := #[.int .i64 t499, .string (⟨#[]⟩ : ByteArray)]) ?_ 1 _ rfl; (with_reducible repeat (first | refine blk_drewN ?_ _ | refine blk_drew ?_ | refine blk_alloc ?_ _)); refine blk_put (cs := #[.int .i64 0, .string (⟨#[]⟩ : ByteArray)]) ?_ 0 _ rfl; (with_reducible repeat (first | refine blk_drewN ?_ _ | refine blk_drew ?_ | refine blk_alloc ?_ _)); exact BK505.out) hb); have n8_ := Aside0.mk (below_step (by repeat (first | (with_reducible first | exact HB.out | apply below_alloc | apply pw_below_drewN | apply below_drew1 | refine below_set ?_ GE481.out | refine below_set ?_ GE482.out | refine below_set ?_ GE491.out | refine below_set ?_ GE498.out | refine below_set ?_ GE505.out) | exact HB.out)) hb); clear HO489; clear HO496; clear HO503; clear BK481; clear BK482; clear BK491; clear BK498; clear BK505; clear HB; have HO489 := n0_; have HO496 := n1_; have HO503 := n2_; have BK481 := n3_; have BK482 := n4_; have BK491 := n5_; have BK498 := n6_; have BK505 := n7_; have HB := n8_; clear n0_ n1_ n2_ n3_ n4_ n5_ n6_ n7_ n8_; (try clear hb); (try clear hb2); (try clear hk); (try clear hi)))
          (try simp only [Act.put, List.setIfInBounds_toArray, List.set_cons_zero, List.set_cons_succ])
          go_cut [83] (fun v83 wc => ∃ (kq : Nat) (x83_21 : Bool), v83 = .bool x83_21 ∧ Aside0 (crossbarlaw16_OriginStaysValid.j1 kq t504 t506 x83_21 a0_0 a0_1 t499 t500 = some r) ∧ Aside0 (kq ≤ kj6) ∧ Aside0 (wc.heap[gb481]? = some (.cells #[.int .i64 a0_0, .string a0_1] 45 (0, 0))) ∧ Aside0 (wc.heap[gb482]? = some (.cells #[.int .i64 a2_0, .int .i64 a2_1, .int .u8 a2_2] 47 (0, 0))) ∧ Aside0 (wc.heap[gb491]? = some (.cells #[.int .i64 t485, .string t486] 45 (0, 0))) ∧ Aside0 (wc.heap[gb498]? = some (.cells #[.int .i64 t492, .string t493] 45 (0, 0))) ∧ Aside0 (wc.heap[gb505]? = some (.cells #[.int .i64 t499, .string t500] 45 (0, 0))) ∧ Aside0 (Below w.heap.size w wc))
          case first =>
            have H := HC22.out
            clear HC22
            by_cases c47 : t490 = 0
            · rw [if_pos c47] at H
              have c47b0 : (t490 == 0) = true := beq_iff_eq.mpr c47
              have c47b1 : (t490 != 0) = false := bne_eq_false_iff_eq.mpr c47
              clear c47
              (first | rw [c47b0] | (simp only [i64_w, i32_w]; rw [c47b0]) | skip)
              replace H := Option.bind_eq_some_iff.mp H
              obtain ⟨t507, A480, H⟩ := H
              replace H : (if t507 = 0 then (if t497 = 0 then ((origin_Check.f kj6 t492 t493 l1).bind fun t508 => (if t508 = 0 then (if t506 = 0 then (crossbarlaw16_OriginStaysValid.j1 kj6 t504 t506 false a0_0 a0_1 t499 t500) else (crossbarlaw16_OriginStaysValid.j1 kj6 t504 t506 (t490 != t506) a0_0 a0_1 t499 t500)) else (crossbarlaw16_OriginStaysValid.j1 kj6 t504 t506 true a0_0 a0_1 t499 t500))) else (if t506 = 0 then (crossbarlaw16_OriginStaysValid.j1 kj6 t504 t506 false a0_0 a0_1 t499 t500) else (crossbarlaw16_OriginStaysValid.j1 kj6 t504 t506 (t490 != t506) a0_0 a0_1 t499 t500))) else (crossbarlaw16_OriginStaysValid.j1 kj6 t504 t506 true a0_0 a0_1 t499 t500)) = some r := H
              have A48 := Aside0.mk A480
              clear A480
              by_cases c49 : t507 = 0
              · rw [if_pos c49] at H
                have c49b0 : (t507 == 0) = true := beq_iff_eq.mpr c49
                have c49b1 : (t507 != 0) = false := bne_eq_false_iff_eq.mpr c49
                clear c49
                by_cases c50 : t497 = 0
                · rw [if_pos c50] at H
                  have c50b0 : (t497 == 0) = true := beq_iff_eq.mpr c50
                  have c50b1 : (t497 != 0) = false := bne_eq_false_iff_eq.mpr c50
                  clear c50
                  replace H := Option.bind_eq_some_iff.mp H
                  obtain ⟨t508, A510, H⟩ := H
                  replace H : (if t508 = 0 then (if t506 = 0 then (crossbarlaw16_OriginStaysValid.j1 kj6 t504 t506 false a0_0 a0_1 t499 t500) else (crossbarlaw16_OriginStaysValid.j1 kj6 t504 t506 (t490 != t506) a0_0 a0_1 t499 t500)) else (crossbarlaw16_OriginStaysValid.j1 kj6 t504 t506 true a0_0 a0_1 t499 t500)) = some r := H
                  have A51 := Aside0.mk A510
                  clear A510
                  by_cases c52 : t508 = 0
                  · rw [if_pos c52] at H
                    have c52b0 : (t508 == 0) = true := beq_iff_eq.mpr c52
                    have c52b1 : (t508 != 0) = false := bne_eq_false_iff_eq.mpr c52
                    clear c52
                    by_cases c53 : t506 = 0
                    · rw [if_pos c53] at H
                      have c53b0 : (t506 == 0) = true := beq_iff_eq.mpr c53
                      have c53b1 : (t506 != 0) = false := bne_eq_false_iff_eq.mpr c53
                      clear c53
                      have H' := Aside0.mk H
                      clear H
                      have hnb54 := NB491_481.out
                      have hnc54 := NB481_491.out
                      have hnb55 := NB491_482.out
                      have hnc55 := NB482_491.out
                      have hnb56 := NB491_498.out
                      have hnc56 := NB498_491.out
                      have hnb57 := NB491_505.out
                      have hnc57 := NB505_491.out
                      have hcz58_0 : w46.cell? ⟨gb491, 0, none⟩ = some (.int .i64 t485) := (blk_cell BK491.out 0).trans rfl
                      have hcz58_1 : w46.cell? ⟨gb491, 1, none⟩ = some (.string t486) := (blk_cell BK491.out 1).trans rfl
                      have hfz58_0 := blk_frozen BK491.out 0
                      have hfz58_1 := blk_frozen BK491.out 1
                      go_wp2_with (first | (go_at_call 27; (with_reducible refine (origin_Check.calls kj6 t485 t486 _ _ l1 t507 _ ?side1 ?side2 A48.out).mono ?_); (case side1 => repeat (first | exact (Kd.C_below HR1.out HB.out) | (with_reducible refine Kd.C_alloc ?_ _) | (with_reducible refine Kd.C_drewN ?_ _) | (with_reducible refine Kd.C_drew ?_))); (case side2 => exact HC1.out); rintro e w59 ⟨rfl, hb⟩; have n0_ := Aside0.mk (Kd.R_below (by (with_reducible repeat (first | apply Kd.R_alloc | apply Kd.R_drewN | apply Kd.R_drew)); exact HO489.out) hb); have n1_ := Aside0.mk (Kd.R_below (by (with_reducible repeat (first | apply Kd.R_alloc | apply Kd.R_drewN | apply Kd.R_drew)); exact HO496.out) hb); have n2_ := Aside0.mk (Kd.R_below (by (with_reducible repeat (first | apply Kd.R_alloc | apply Kd.R_drewN | apply Kd.R_drew)); exact HO503.out) hb); have n3_ := Aside0.mk (blk_below (g := gb481) (o := .cells #[.int .i64 a0_0, .string a0_1] 45 (0, 0)) (by (with_reducible repeat (first | refine blk_drewN ?_ _ | refine blk_drew ?_ | refine blk_alloc ?_ _)); exact BK481.out) hb); have n4_ := Aside0.mk (blk_below (g := gb482) (o := .cells #[.int .i64 a2_0, .int .i64 a2_1, .int .u8 a2_2] 47 (0, 0)) (by (with_reducible repeat (first | refine blk_drewN ?_ _ | refine blk_drew ?_ | refine blk_alloc ?_ _)); exact BK482.out) hb); have n5_ := Aside0.mk (blk_below (g := gb491) (o := .cells #[.int .i64 t485, .string t486] 45 (0, 0)) (by (with_reducible repeat (first | refine blk_drewN ?_ _ | refine blk_drew ?_ | refine blk_alloc ?_ _)); exact BK491.out) hb); have n6_ := Aside0.mk (blk_below (g := gb498) (o := .cells #[.int .i64 t492, .string t493] 45 (0, 0)) (by (with_reducible repeat (first | refine blk_drewN ?_ _ | refine blk_drew ?_ | refine blk_alloc ?_ _)); exact BK498.out) hb); have n7_ := Aside0.mk (blk_below (g := gb505) (o := .cells #[.int .i64 t499, .string t500] 45 (0, 0)) (by (with_reducible repeat (first | refine blk_drewN ?_ _ | refine blk_drew ?_ | refine blk_alloc ?_ _)); exact BK505.out) hb); have n8_ := Aside0.mk (below_step (by repeat (first | (with_reducible first | exact HB.out | apply below_alloc | apply pw_below_drewN | apply below_drew1 | refine below_set ?_ GE481.out | refine below_set ?_ GE482.out | refine below_set ?_ GE491.out | refine below_set ?_ GE498.out | refine below_set ?_ GE505.out) | exact HB.out)) hb); clear HO489; clear HO496; clear HO503; clear BK481; clear BK482; clear BK491; clear BK498; clear BK505; clear HB; have HO489 := n0_; have HO496 := n1_; have HO503 := n2_; have BK481 := n3_; have BK482 := n4_; have BK491 := n5_; have BK498 := n6_; have BK505 := n7_; have HB := n8_; clear n0_ n1_ n2_ n3_ n4_ n5_ n6_ n7_ n8_; (try clear hb); (try clear hb2); (try clear hk); (try clear hi); have hnb60 := NB498_481.out; have hnc60 := NB481_498.out; have hnb61 := NB498_482.out; have hnc61 := NB482_498.out; have hnb62 := NB498_505.out; have hnc62 := NB505_498.out; have hcz63_0 : w59.cell? ⟨gb498, 0, none⟩ = some (.int .i64 t492) := (blk_cell BK498.out 0).trans rfl; have hcz63_1 : w59.cell? ⟨gb498, 1, none⟩ = some (.string t493) := (blk_cell BK498.out 1).trans rfl; have hfz63_0 := blk_frozen BK498.out 0; have hfz63_1 := blk_frozen BK498.out 1) | (go_at_call 27; (with_reducible refine (origin_Check.calls kj6 t492 t493 _ _ l1 t508 _ ?side1 ?side2 A51.out).mono ?_); (case side1 => repeat (first | exact (Kd.C_below HR1.out HB.out) | (with_reducible refine Kd.C_alloc ?_ _) | (with_reducible refine Kd.C_drewN ?_ _) | (with_reducible refine Kd.C_drew ?_))); (case side2 => exact HC1.out); rintro e w64 ⟨rfl, hb⟩; have n0_ := Aside0.mk (Kd.R_below (by (with_reducible repeat (first | apply Kd.R_alloc | apply Kd.R_drewN | apply Kd.R_drew)); exact HO489.out) hb); have n1_ := Aside0.mk (Kd.R_below (by (with_reducible repeat (first | apply Kd.R_alloc | apply Kd.R_drewN | apply Kd.R_drew)); exact HO496.out) hb); have n2_ := Aside0.mk (Kd.R_below (by (with_reducible repeat (first | apply Kd.R_alloc | apply Kd.R_drewN | apply Kd.R_drew)); exact HO503.out) hb); have n3_ := Aside0.mk (blk_below (g := gb481) (o := .cells #[.int .i64 a0_0, .string a0_1] 45 (0, 0)) (by (with_reducible repeat (first | refine blk_drewN ?_ _ | refine blk_drew ?_ | refine blk_alloc ?_ _)); exact BK481.out) hb); have n4_ := Aside0.mk (blk_below (g := gb482) (o := .cells #[.int .i64 a2_0, .int .i64 a2_1, .int .u8 a2_2] 47 (0, 0)) (by (with_reducible repeat (first | refine blk_drewN ?_ _ | refine blk_drew ?_ | refine blk_alloc ?_ _)); exact BK482.out) hb); have n5_ := Aside0.mk (blk_below (g := gb491) (o := .cells #[.int .i64 t485, .string t486] 45 (0, 0)) (by (with_reducible repeat (first | refine blk_drewN ?_ _ | refine blk_drew ?_ | refine blk_alloc ?_ _)); exact BK491.out) hb); have n6_ := Aside0.mk (blk_below (g := gb498) (o := .cells #[.int .i64 t492, .string t493] 45 (0, 0)) (by (with_reducible repeat (first | refine blk_drewN ?_ _ | refine blk_drew ?_ | refine blk_alloc ?_ _)); exact BK498.out) hb); have n7_ := Aside0.mk (blk_below (g := gb505) (o := .cells #[.int .i64 t499, .string t500] 45 (0, 0)) (by (with_reducible repeat (first | refine blk_drewN ?_ _ | refine blk_drew ?_ | refine blk_alloc ?_ _)); exact BK505.out) hb); have n8_ := Aside0.mk (below_step (by repeat (first | (with_reducible first | exact HB.out | apply below_alloc | apply pw_below_drewN | apply below_drew1 | refine below_set ?_ GE481.out | refine below_set ?_ GE482.out | refine below_set ?_ GE491.out | refine below_set ?_ GE498.out | refine below_set ?_ GE505.out) | exact HB.out)) hb); clear HO489; clear HO496; clear HO503; clear BK481; clear BK482; clear BK491; clear BK498; clear BK505; clear HB; have HO489 := n0_; have HO496 := n1_; have HO503 := n2_; have BK481 := n3_; have BK482 := n4_; have BK491 := n5_; have BK498 := n6_; have BK505 := n7_; have HB := n8_; clear n0_ n1_ n2_ n3_ n4_ n5_ n6_ n7_ n8_; (try clear hb); (try clear hb2); (try clear hk); (try clear hi)))
                      go_meet
                      case rel => exact ⟨_, (false), (by first | rfl | (simp; done) | (simp [*]; done)), H', ⟨by have := HJ6.out; first | omega | exact Nat.le_refl _⟩, ⟨by (with_reducible repeat (first | refine blk_drewN ?_ _ | refine blk_drew ?_ | refine blk_alloc ?_ _)); exact BK481.out⟩, ⟨by (with_reducible repeat (first | refine blk_drewN ?_ _ | refine blk_drew ?_ | refine blk_alloc ?_ _)); exact BK482.out⟩, ⟨by (with_reducible repeat (first | refine blk_drewN ?_ _ | refine blk_drew ?_ | refine blk_alloc ?_ _)); exact BK491.out⟩, ⟨by (with_reducible repeat (first | refine blk_drewN ?_ _ | refine blk_drew ?_ | refine blk_alloc ?_ _)); exact BK498.out⟩, ⟨by (with_reducible repeat (first | refine blk_drewN ?_ _ | refine blk_drew ?_ | refine blk_alloc ?_ _)); exact BK505.out⟩, ⟨by repeat (first | (with_reducible first | exact HB.out | apply below_alloc | apply pw_below_drewN | apply below_drew1 | refine below_set ?_ GE481.out | refine below_set ?_ GE482.out | refine below_set ?_ GE491.out | refine below_set ?_ GE498.out | refine below_set ?_ GE505.out) | exact HB.out)⟩⟩
                    · rw [if_neg c53] at H
                      have c53b0 : (t506 == 0) = false := beq_eq_false_iff_ne.mpr c53
                      have c53b1 : (t506 != 0) = true := bne_iff_ne.mpr c53
                      have H' := Aside0.mk H
                      clear H
                      have hnb65 := NB491_481.out
                      have hnc65 := NB481_491.out
                      have hnb66 := NB491_482.out
                      have hnc66 := NB482_491.out
                      have hnb67 := NB491_498.out
                      have hnc67 := NB498_491.out
                      have hnb68 := NB491_505.out
                      have hnc68 := NB505_491.out
                      have hcz69_0 : w46.cell? ⟨gb491, 0, none⟩ = some (.int .i64 t485) := (blk_cell BK491.out 0).trans rfl
                      have hcz69_1 : w46.cell? ⟨gb491, 1, none⟩ = some (.string t486) := (blk_cell BK491.out 1).trans rfl
                      have hfz69_0 := blk_frozen BK491.out 0
                      have hfz69_1 := blk_frozen BK491.out 1
                      go_wp2_with (first | (go_at_call 27; (with_reducible refine (origin_Check.calls kj6 t485 t486 _ _ l1 t507 _ ?side1 ?side2 A48.out).mono ?_); (case side1 => repeat (first | exact (Kd.C_below HR1.out HB.out) | (with_reducible refine Kd.C_alloc ?_ _) | (with_reducible refine Kd.C_drewN ?_ _) | (with_reducible refine Kd.C_drew ?_))); (case side2 => exact HC1.out); rintro e w70 ⟨rfl, hb⟩; have n0_ := Aside0.mk (Kd.R_below (by (with_reducible repeat (first | apply Kd.R_alloc | apply Kd.R_drewN | apply Kd.R_drew)); exact HO489.out) hb); have n1_ := Aside0.mk (Kd.R_below (by (with_reducible repeat (first | apply Kd.R_alloc | apply Kd.R_drewN | apply Kd.R_drew)); exact HO496.out) hb); have n2_ := Aside0.mk (Kd.R_below (by (with_reducible repeat (first | apply Kd.R_alloc | apply Kd.R_drewN | apply Kd.R_drew)); exact HO503.out) hb); have n3_ := Aside0.mk (blk_below (g := gb481) (o := .cells #[.int .i64 a0_0, .string a0_1] 45 (0, 0)) (by (with_reducible repeat (first | refine blk_drewN ?_ _ | refine blk_drew ?_ | refine blk_alloc ?_ _)); exact BK481.out) hb); have n4_ := Aside0.mk (blk_below (g := gb482) (o := .cells #[.int .i64 a2_0, .int .i64 a2_1, .int .u8 a2_2] 47 (0, 0)) (by (with_reducible repeat (first | refine blk_drewN ?_ _ | refine blk_drew ?_ | refine blk_alloc ?_ _)); exact BK482.out) hb); have n5_ := Aside0.mk (blk_below (g := gb491) (o := .cells #[.int .i64 t485, .string t486] 45 (0, 0)) (by (with_reducible repeat (first | refine blk_drewN ?_ _ | refine blk_drew ?_ | refine blk_alloc ?_ _)); exact BK491.out) hb); have n6_ := Aside0.mk (blk_below (g := gb498) (o := .cells #[.int .i64 t492, .string t493] 45 (0, 0)) (by (with_reducible repeat (first | refine blk_drewN ?_ _ | refine blk_drew ?_ | refine blk_alloc ?_ _)); exact BK498.out) hb); have n7_ := Aside0.mk (blk_below (g := gb505) (o := .cells #[.int .i64 t499, .string t500] 45 (0, 0)) (by (with_reducible repeat (first | refine blk_drewN ?_ _ | refine blk_drew ?_ | refine blk_alloc ?_ _)); exact BK505.out) hb); have n8_ := Aside0.mk (below_step (by repeat (first | (with_reducible first | exact HB.out | apply below_alloc | apply pw_below_drewN | apply below_drew1 | refine below_set ?_ GE481.out | refine below_set ?_ GE482.out | refine below_set ?_ GE491.out | refine below_set ?_ GE498.out | refine below_set ?_ GE505.out) | exact HB.out)) hb); clear HO489; clear HO496; clear HO503; clear BK481; clear BK482; clear BK491; clear BK498; clear BK505; clear HB; have HO489 := n0_; have HO496 := n1_; have HO503 := n2_; have BK481 := n3_; have BK482 := n4_; have BK491 := n5_; have BK498 := n6_; have BK505 := n7_; have HB := n8_; clear n0_ n1_ n2_ n3_ n4_ n5_ n6_ n7_ n8_; (try clear hb); (try clear hb2); (try clear hk); (try clear hi); have hnb71 := NB498_481.out; have hnc71 := NB481_498.out; have hnb72 := NB498_482.out; have hnc72 := NB482_498.out; have hnb73 := NB498_505.out; have hnc73 := NB505_498.out; have hcz74_0 : w70.cell? ⟨gb498, 0, none⟩ = some (.int .i64 t492) := (blk_cell BK498.out 0).trans rfl; have hcz74_1 : w70.cell? ⟨gb498, 1, none⟩ = some (.string t493) := (blk_cell BK498.out 1).trans rfl; have hfz74_0 := blk_frozen BK498.out 0; have hfz74_1 := blk_frozen BK498.out 1) | (go_at_call 27; (with_reducible refine (origin_Check.calls kj6 t492 t493 _ _ l1 t508 _ ?side1 ?side2 A51.out).mono ?_); (case side1 => repeat (first | exact (Kd.C_below HR1.out HB.out) | (with_reducible refine Kd.C_alloc ?_ _) | (with_reducible refine Kd.C_drewN ?_ _) | (with_reducible refine Kd.C_drew ?_))); (case side2 => exact HC1.out); rintro e w75 ⟨rfl, hb⟩; have n0_ := Aside0.mk (Kd.R_below (by (with_reducible repeat (first | apply Kd.R_alloc | apply Kd.R_drewN | apply Kd.R_drew)); exact HO489.out) hb); have n1_ := Aside0.mk (Kd.R_below (by (with_reducible repeat (first | apply Kd.R_alloc | apply Kd.R_drewN | apply Kd.R_drew)); exact HO496.out) hb); have n2_ := Aside0.mk (Kd.R_below (by (with_reducible repeat (first | apply Kd.R_alloc | apply Kd.R_drewN | apply Kd.R_drew)); exact HO503.out) hb); have n3_ := Aside0.mk (blk_below (g := gb481) (o := .cells #[.int .i64 a0_0, .string a0_1] 45 (0, 0)) (by (with_reducible repeat (first | refine blk_drewN ?_ _ | refine blk_drew ?_ | refine blk_alloc ?_ _)); exact BK481.out) hb); have n4_ := Aside0.mk (blk_below (g := gb482) (o := .cells #[.int .i64 a2_0, .int .i64 a2_1, .int .u8 a2_2] 47 (0, 0)) (by (with_reducible repeat (first | refine blk_drewN ?_ _ | refine blk_drew ?_ | refine blk_alloc ?_ _)); exact BK482.out) hb); have n5_ := Aside0.mk (blk_below (g := gb491) (o := .cells #[.int .i64 t485, .string t486] 45 (0, 0)) (by (with_reducible repeat (first | refine blk_drewN ?_ _ | refine blk_drew ?_ | refine blk_alloc ?_ _)); exact BK491.out) hb); have n6_ := Aside0.mk (blk_below (g := gb498) (o := .cells #[.int .i64 t492, .string t493] 45 (0, 0)) (by (with_reducible repeat (first | refine blk_drewN ?_ _ | refine blk_drew ?_ | refine blk_alloc ?_ _)); exact BK498.out) hb); have n7_ := Aside0.mk (blk_below (g := gb505) (o := .cells #[.int .i64 t499, .string t500] 45 (0, 0)) (by (with_reducible repeat (first | refine blk_drewN ?_ _ | refine blk_drew ?_ | refine blk_alloc ?_ _)); exact BK505.out) hb); have n8_ := Aside0.mk (below_step (by repeat (first | (with_reducible first | exact HB.out | apply below_alloc | apply pw_below_drewN | apply below_drew1 | refine below_set ?_ GE481.out | refine below_set ?_ GE482.out | refine below_set ?_ GE491.out | refine below_set ?_ GE498.out | refine below_set ?_ GE505.out) | exact HB.out)) hb); clear HO489; clear HO496; clear HO503; clear BK481; clear BK482; clear BK491; clear BK498; clear BK505; clear HB; have HO489 := n0_; have HO496 := n1_; have HO503 := n2_; have BK481 := n3_; have BK482 := n4_; have BK491 := n5_; have BK498 := n6_; have BK505 := n7_; have HB := n8_; clear n0_ n1_ n2_ n3_ n4_ n5_ n6_ n7_ n8_; (try clear hb); (try clear hb2); (try clear hk); (try clear hi)))
                      go_meet
                      case rel => exact ⟨_, ((t490 != t506)), (by first | rfl | (simp; done) | (simp [*]; done)), H', ⟨by have := HJ6.out; first | omega | exact Nat.le_refl _⟩, ⟨by (with_reducible repeat (first | refine blk_drewN ?_ _ | refine blk_drew ?_ | refine blk_alloc ?_ _)); exact BK481.out⟩, ⟨by (with_reducible repeat (first | refine blk_drewN ?_ _ | refine blk_drew ?_ | refine blk_alloc ?_ _)); exact BK482.out⟩, ⟨by (with_reducible repeat (first | refine blk_drewN ?_ _ | refine blk_drew ?_ | refine blk_alloc ?_ _)); exact BK491.out⟩, ⟨by (with_reducible repeat (first | refine blk_drewN ?_ _ | refine blk_drew ?_ | refine blk_alloc ?_ _)); exact BK498.out⟩, ⟨by (with_reducible repeat (first | refine blk_drewN ?_ _ | refine blk_drew ?_ | refine blk_alloc ?_ _)); exact BK505.out⟩, ⟨by repeat (first | (with_reducible first | exact HB.out | apply below_alloc | apply pw_below_drewN | apply below_drew1 | refine below_set ?_ GE481.out | refine below_set ?_ GE482.out | refine below_set ?_ GE491.out | refine below_set ?_ GE498.out | refine below_set ?_ GE505.out) | exact HB.out)⟩⟩
                  · rw [if_neg c52] at H
                    have c52b0 : (t508 == 0) = false := beq_eq_false_iff_ne.mpr c52
                    have c52b1 : (t508 != 0) = true := bne_iff_ne.mpr c52
                    have H' := Aside0.mk H
                    clear H
                    have hnb76 := NB491_481.out
                    have hnc76 := NB481_491.out
                    have hnb77 := NB491_482.out
                    have hnc77 := NB482_491.out
                    have hnb78 := NB491_498.out
                    have hnc78 := NB498_491.out
                    have hnb79 := NB491_505.out
                    have hnc79 := NB505_491.out
                    have hcz80_0 : w46.cell? ⟨gb491, 0, none⟩ = some (.int .i64 t485) := (blk_cell BK491.out 0).trans rfl
                    have hcz80_1 : w46.cell? ⟨gb491, 1, none⟩ = some (.string t486) := (blk_cell BK491.out 1).trans rfl
                    have hfz80_0 := blk_frozen BK491.out 0
                    have hfz80_1 := blk_frozen BK491.out 1
                    go_wp2_with (first | (go_at_call 27; (with_reducible refine (origin_Check.calls kj6 t485 t486 _ _ l1 t507 _ ?side1 ?side2 A48.out).mono ?_); (case side1 => repeat (first | exact (Kd.C_below HR1.out HB.out) | (with_reducible refine Kd.C_alloc ?_ _) | (with_reducible refine Kd.C_drewN ?_ _) | (with_reducible refine Kd.C_drew ?_))); (case side2 => exact HC1.out); rintro e w81 ⟨rfl, hb⟩; have n0_ := Aside0.mk (Kd.R_below (by (with_reducible repeat (first | apply Kd.R_alloc | apply Kd.R_drewN | apply Kd.R_drew)); exact HO489.out) hb); have n1_ := Aside0.mk (Kd.R_below (by (with_reducible repeat (first | apply Kd.R_alloc | apply Kd.R_drewN | apply Kd.R_drew)); exact HO496.out) hb); have n2_ := Aside0.mk (Kd.R_below (by (with_reducible repeat (first | apply Kd.R_alloc | apply Kd.R_drewN | apply Kd.R_drew)); exact HO503.out) hb); have n3_ := Aside0.mk (blk_below (g := gb481) (o := .cells #[.int .i64 a0_0, .string a0_1] 45 (0, 0)) (by (with_reducible repeat (first | refine blk_drewN ?_ _ | refine blk_drew ?_ | refine blk_alloc ?_ _)); exact BK481.out) hb); have n4_ := Aside0.mk (blk_below (g := gb482) (o := .cells #[.int .i64 a2_0, .int .i64 a2_1, .int .u8 a2_2] 47 (0, 0)) (by (with_reducible repeat (first | refine blk_drewN ?_ _ | refine blk_drew ?_ | refine blk_alloc ?_ _)); exact BK482.out) hb); have n5_ := Aside0.mk (blk_below (g := gb491) (o := .cells #[.int .i64 t485, .string t486] 45 (0, 0)) (by (with_reducible repeat (first | refine blk_drewN ?_ _ | refine blk_drew ?_ | refine blk_alloc ?_ _)); exact BK491.out) hb); have n6_ := Aside0.mk (blk_below (g := gb498) (o := .cells #[.int .i64 t492, .string t493] 45 (0, 0)) (by (with_reducible repeat (first | refine blk_drewN ?_ _ | refine blk_drew ?_ | refine blk_alloc ?_ _)); exact BK498.out) hb); have n7_ := Aside0.mk (blk_below (g := gb505) (o := .cells #[.int .i64 t499, .string t500] 45 (0, 0)) (by (with_reducible repeat (first | refine blk_drewN ?_ _ | refine blk_drew ?_ | refine blk_alloc ?_ _)); exact BK505.out) hb); have n8_ := Aside0.mk (below_step (by repeat (first | (with_reducible first | exact HB.out | apply below_alloc | apply pw_below_drewN | apply below_drew1 | refine below_set ?_ GE481.out | refine below_set ?_ GE482.out | refine below_set ?_ GE491.out | refine below_set ?_ GE498.out | refine below_set ?_ GE505.out) | exact HB.out)) hb); clear HO489; clear HO496; clear HO503; clear BK481; clear BK482; clear BK491; clear BK498; clear BK505; clear HB; have HO489 := n0_; have HO496 := n1_; have HO503 := n2_; have BK481 := n3_; have BK482 := n4_; have BK491 := n5_; have BK498 := n6_; have BK505 := n7_; have HB := n8_; clear n0_ n1_ n2_ n3_ n4_ n5_ n6_ n7_ n8_; (try clear hb); (try clear hb2); (try clear hk); (try clear hi); have hnb82 := NB498_481.out; have hnc82 := NB481_498.out; have hnb83 := NB498_482.out; have hnc83 := NB482_498.out; have hnb84 := NB498_505.out; have hnc84 := NB505_498.out; have hcz85_0 : w81.cell? ⟨gb498, 0, none⟩ = some (.int .i64 t492) := (blk_cell BK498.out 0).trans rfl; have hcz85_1 : w81.cell? ⟨gb498, 1, none⟩ = some (.string t493) := (blk_cell BK498.out 1).trans rfl; have hfz85_0 := blk_frozen BK498.out 0; have hfz85_1 := blk_frozen BK498.out 1) | (go_at_call 27; (with_reducible refine (origin_Check.calls kj6 t492 t493 _ _ l1 t508 _ ?side1 ?side2 A51.out).mono ?_); (case side1 => repeat (first | exact (Kd.C_below HR1.out HB.out) | (with_reducible refine Kd.C_alloc ?_ _) | (with_reducible refine Kd.C_drewN ?_ _) | (with_reducible refine Kd.C_drew ?_))); (case side2 => exact HC1.out); rintro e w86 ⟨rfl, hb⟩; have n0_ := Aside0.mk (Kd.R_below (by (with_reducible repeat (first | apply Kd.R_alloc | apply Kd.R_drewN | apply Kd.R_drew)); exact HO489.out) hb); have n1_ := Aside0.mk (Kd.R_below (by (with_reducible repeat (first | apply Kd.R_alloc | apply Kd.R_drewN | apply Kd.R_drew)); exact HO496.out) hb); have n2_ := Aside0.mk (Kd.R_below (by (with_reducible repeat (first | apply Kd.R_alloc | apply Kd.R_drewN | apply Kd.R_drew)); exact HO503.out) hb); have n3_ := Aside0.mk (blk_below (g := gb481) (o := .cells #[.int .i64 a0_0, .string a0_1] 45 (0, 0)) (by (with_reducible repeat (first | refine blk_drewN ?_ _ | refine blk_drew ?_ | refine blk_alloc ?_ _)); exact BK481.out) hb); have n4_ := Aside0.mk (blk_below (g := gb482) (o := .cells #[.int .i64 a2_0, .int .i64 a2_1, .int .u8 a2_2] 47 (0, 0)) (by (with_reducible repeat (first | refine blk_drewN ?_ _ | refine blk_drew ?_ | refine blk_alloc ?_ _)); exact BK482.out) hb); have n5_ := Aside0.mk (blk_below (g := gb491) (o := .cells #[.int .i64 t485, .string t486] 45 (0, 0)) (by (with_reducible repeat (first | refine blk_drewN ?_ _ | refine blk_drew ?_ | refine blk_alloc ?_ _)); exact BK491.out) hb); have n6_ := Aside0.mk (blk_below (g := gb498) (o := .cells #[.int .i64 t492, .string t493] 45 (0, 0)) (by (with_reducible repeat (first | refine blk_drewN ?_ _ | refine blk_drew ?_ | refine blk_alloc ?_ _)); exact BK498.out) hb); have n7_ := Aside0.mk (blk_below (g := gb505) (o := .cells #[.int .i64 t499, .string t500] 45 (0, 0)) (by (with_reducible repeat (first | refine blk_drewN ?_ _ | refine blk_drew ?_ | refine blk_alloc ?_ _)); exact BK505.out) hb); have n8_ := Aside0.mk (below_step (by repeat (first | (with_reducible first | exact HB.out | apply below_alloc | apply pw_below_drewN | apply below_drew1 | refine below_set ?_ GE481.out | refine below_set ?_ GE482.out | refine below_set ?_ GE491.out | refine below_set ?_ GE498.out | refine below_set ?_ GE505.out) | exact HB.out)) hb); clear HO489; clear HO496; clear HO503; clear BK481; clear BK482; clear BK491; clear BK498; clear BK505; clear HB; have HO489 := n0_; have HO496 := n1_; have HO503 := n2_; have BK481 := n3_; have BK482 := n4_; have BK491 := n5_; have BK498 := n6_; have BK505 := n7_; have HB := n8_; clear n0_ n1_ n2_ n3_ n4_ n5_ n6_ n7_ n8_; (try clear hb); (try clear hb2); (try clear hk); (try clear hi)))
                    go_meet
                    case rel => exact ⟨_, (true), (by first | rfl | (simp; done) | (simp [*]; done)), H', ⟨by have := HJ6.out; first | omega | exact Nat.le_refl _⟩, ⟨by (with_reducible repeat (first | refine blk_drewN ?_ _ | refine blk_drew ?_ | refine blk_alloc ?_ _)); exact BK481.out⟩, ⟨by (with_reducible repeat (first | refine blk_drewN ?_ _ | refine blk_drew ?_ | refine blk_alloc ?_ _)); exact BK482.out⟩, ⟨by (with_reducible repeat (first | refine blk_drewN ?_ _ | refine blk_drew ?_ | refine blk_alloc ?_ _)); exact BK491.out⟩, ⟨by (with_reducible repeat (first | refine blk_drewN ?_ _ | refine blk_drew ?_ | refine blk_alloc ?_ _)); exact BK498.out⟩, ⟨by (with_reducible repeat (first | refine blk_drewN ?_ _ | refine blk_drew ?_ | refine blk_alloc ?_ _)); exact BK505.out⟩, ⟨by repeat (first | (with_reducible first | exact HB.out | apply below_alloc | apply pw_below_drewN | apply below_drew1 | refine below_set ?_ GE481.out | refine below_set ?_ GE482.out | refine below_set ?_ GE491.out | refine below_set ?_ GE498.out | refine below_set ?_ GE505.out) | exact HB.out)⟩⟩
                · rw [if_neg c50] at H
                  have c50b0 : (t497 == 0) = false := beq_eq_false_iff_ne.mpr c50
                  have c50b1 : (t497 != 0) = true := bne_iff_ne.mpr c50
                  by_cases c87 : t506 = 0
                  · rw [if_pos c87] at H
                    have c87b0 : (t506 == 0) = true := beq_iff_eq.mpr c87
                    have c87b1 : (t506 != 0) = false := bne_eq_false_iff_eq.mpr c87
                    clear c87
                    have H' := Aside0.mk H
                    clear H
                    have hnb88 := NB491_481.out
                    have hnc88 := NB481_491.out
                    have hnb89 := NB491_482.out
                    have hnc89 := NB482_491.out
                    have hnb90 := NB491_498.out
                    have hnc90 := NB498_491.out
                    have hnb91 := NB491_505.out
                    have hnc91 := NB505_491.out
                    have hcz92_0 : w46.cell? ⟨gb491, 0, none⟩ = some (.int .i64 t485) := (blk_cell BK491.out 0).trans rfl
                    have hcz92_1 : w46.cell? ⟨gb491, 1, none⟩ = some (.string t486) := (blk_cell BK491.out 1).trans rfl
                    have hfz92_0 := blk_frozen BK491.out 0
                    have hfz92_1 := blk_frozen BK491.out 1
                    go_wp2_with (first | (go_at_call 27; (with_reducible refine (origin_Check.calls kj6 t485 t486 _ _ l1 t507 _ ?side1 ?side2 A48.out).mono ?_); (case side1 => repeat (first | exact (Kd.C_below HR1.out HB.out) | (with_reducible refine Kd.C_alloc ?_ _) | (with_reducible refine Kd.C_drewN ?_ _) | (with_reducible refine Kd.C_drew ?_))); (case side2 => exact HC1.out); rintro e w93 ⟨rfl, hb⟩; have n0_ := Aside0.mk (Kd.R_below (by (with_reducible repeat (first | apply Kd.R_alloc | apply Kd.R_drewN | apply Kd.R_drew)); exact HO489.out) hb); have n1_ := Aside0.mk (Kd.R_below (by (with_reducible repeat (first | apply Kd.R_alloc | apply Kd.R_drewN | apply Kd.R_drew)); exact HO496.out) hb); have n2_ := Aside0.mk (Kd.R_below (by (with_reducible repeat (first | apply Kd.R_alloc | apply Kd.R_drewN | apply Kd.R_drew)); exact HO503.out) hb); have n3_ := Aside0.mk (blk_below (g := gb481) (o := .cells #[.int .i64 a0_0, .string a0_1] 45 (0, 0)) (by (with_reducible repeat (first | refine blk_drewN ?_ _ | refine blk_drew ?_ | refine blk_alloc ?_ _)); exact BK481.out) hb); have n4_ := Aside0.mk (blk_below (g := gb482) (o := .cells #[.int .i64 a2_0, .int .i64 a2_1, .int .u8 a2_2] 47 (0, 0)) (by (with_reducible repeat (first | refine blk_drewN ?_ _ | refine blk_drew ?_ | refine blk_alloc ?_ _)); exact BK482.out) hb); have n5_ := Aside0.mk (blk_below (g := gb491) (o := .cells #[.int .i64 t485, .string t486] 45 (0, 0)) (by (with_reducible repeat (first | refine blk_drewN ?_ _ | refine blk_drew ?_ | refine blk_alloc ?_ _)); exact BK491.out) hb); have n6_ := Aside0.mk (blk_below (g := gb498) (o := .cells #[.int .i64 t492, .string t493] 45 (0, 0)) (by (with_reducible repeat (first | refine blk_drewN ?_ _ | refine blk_drew ?_ | refine blk_alloc ?_ _)); exact BK498.out) hb); have n7_ := Aside0.mk (blk_below (g := gb505) (o := .cells #[.int .i64 t499, .string t500] 45 (0, 0)) (by (with_reducible repeat (first | refine blk_drewN ?_ _ | refine blk_drew ?_ | refine blk_alloc ?_ _)); exact BK505.out) hb); have n8_ := Aside0.mk (below_step (by repeat (first | (with_reducible first | exact HB.out | apply below_alloc | apply pw_below_drewN | apply below_drew1 | refine below_set ?_ GE481.out | refine below_set ?_ GE482.out | refine below_set ?_ GE491.out | refine below_set ?_ GE498.out | refine below_set ?_ GE505.out) | exact HB.out)) hb); clear HO489; clear HO496; clear HO503; clear BK481; clear BK482; clear BK491; clear BK498; clear BK505; clear HB; have HO489 := n0_; have HO496 := n1_; have HO503 := n2_; have BK481 := n3_; have BK482 := n4_; have BK491 := n5_; have BK498 := n6_; have BK505 := n7_; have HB := n8_; clear n0_ n1_ n2_ n3_ n4_ n5_ n6_ n7_ n8_; (try clear hb); (try clear hb2); (try clear hk); (try clear hi)))
                    go_meet
                    case rel => exact ⟨_, (false), (by first | rfl | (simp; done) | (simp [*]; done)), H', ⟨by have := HJ6.out; first | omega | exact Nat.le_refl _⟩, ⟨by (with_reducible repeat (first | refine blk_drewN ?_ _ | refine blk_drew ?_ | refine blk_alloc ?_ _)); exact BK481.out⟩, ⟨by (with_reducible repeat (first | refine blk_drewN ?_ _ | refine blk_drew ?_ | refine blk_alloc ?_ _)); exact BK482.out⟩, ⟨by (with_reducible repeat (first | refine blk_drewN ?_ _ | refine blk_drew ?_ | refine blk_alloc ?_ _)); exact BK491.out⟩, ⟨by (with_reducible repeat (first | refine blk_drewN ?_ _ | refine blk_drew ?_ | refine blk_alloc ?_ _)); exact BK498.out⟩, ⟨by (with_reducible repeat (first | refine blk_drewN ?_ _ | refine blk_drew ?_ | refine blk_alloc ?_ _)); exact BK505.out⟩, ⟨by repeat (first | (with_reducible first | exact HB.out | apply below_alloc | apply pw_below_drewN | apply below_drew1 | refine below_set ?_ GE481.out | refine below_set ?_ GE482.out | refine below_set ?_ GE491.out | refine below_set ?_ GE498.out | refine below_set ?_ GE505.out) | exact HB.out)⟩⟩
                  · rw [if_neg c87] at H
                    have c87b0 : (t506 == 0) = false := beq_eq_false_iff_ne.mpr c87
                    have c87b1 : (t506 != 0) = true := bne_iff_ne.mpr c87
                    have H' := Aside0.mk H
                    clear H
                    have hnb94 := NB491_481.out
                    have hnc94 := NB481_491.out
                    have hnb95 := NB491_482.out
                    have hnc95 := NB482_491.out
                    have hnb96 := NB491_498.out
                    have hnc96 := NB498_491.out
                    have hnb97 := NB491_505.out
                    have hnc97 := NB505_491.out
                    have hcz98_0 : w46.cell? ⟨gb491, 0, none⟩ = some (.int .i64 t485) := (blk_cell BK491.out 0).trans rfl
                    have hcz98_1 : w46.cell? ⟨gb491, 1, none⟩ = some (.string t486) := (blk_cell BK491.out 1).trans rfl
                    have hfz98_0 := blk_frozen BK491.out 0
                    have hfz98_1 := blk_frozen BK491.out 1
                    go_wp2_with (first | (go_at_call 27; (with_reducible refine (origin_Check.calls kj6 t485 t486 _ _ l1 t507 _ ?side1 ?side2 A48.out).mono ?_); (case side1 => repeat (first | exact (Kd.C_below HR1.out HB.out) | (with_reducible refine Kd.C_alloc ?_ _) | (with_reducible refine Kd.C_drewN ?_ _) | (with_reducible refine Kd.C_drew ?_))); (case side2 => exact HC1.out); rintro e w99 ⟨rfl, hb⟩; have n0_ := Aside0.mk (Kd.R_below (by (with_reducible repeat (first | apply Kd.R_alloc | apply Kd.R_drewN | apply Kd.R_drew)); exact HO489.out) hb); have n1_ := Aside0.mk (Kd.R_below (by (with_reducible repeat (first | apply Kd.R_alloc | apply Kd.R_drewN | apply Kd.R_drew)); exact HO496.out) hb); have n2_ := Aside0.mk (Kd.R_below (by (with_reducible repeat (first | apply Kd.R_alloc | apply Kd.R_drewN | apply Kd.R_drew)); exact HO503.out) hb); have n3_ := Aside0.mk (blk_below (g := gb481) (o := .cells #[.int .i64 a0_0, .string a0_1] 45 (0, 0)) (by (with_reducible repeat (first | refine blk_drewN ?_ _ | refine blk_drew ?_ | refine blk_alloc ?_ _)); exact BK481.out) hb); have n4_ := Aside0.mk (blk_below (g := gb482) (o := .cells #[.int .i64 a2_0, .int .i64 a2_1, .int .u8 a2_2] 47 (0, 0)) (by (with_reducible repeat (first | refine blk_drewN ?_ _ | refine blk_drew ?_ | refine blk_alloc ?_ _)); exact BK482.out) hb); have n5_ := Aside0.mk (blk_below (g := gb491) (o := .cells #[.int .i64 t485, .string t486] 45 (0, 0)) (by (with_reducible repeat (first | refine blk_drewN ?_ _ | refine blk_drew ?_ | refine blk_alloc ?_ _)); exact BK491.out) hb); have n6_ := Aside0.mk (blk_below (g := gb498) (o := .cells #[.int .i64 t492, .string t493] 45 (0, 0)) (by (with_reducible repeat (first | refine blk_drewN ?_ _ | refine blk_drew ?_ | refine blk_alloc ?_ _)); exact BK498.out) hb); have n7_ := Aside0.mk (blk_below (g := gb505) (o := .cells #[.int .i64 t499, .string t500] 45 (0, 0)) (by (with_reducible repeat (first | refine blk_drewN ?_ _ | refine blk_drew ?_ | refine blk_alloc ?_ _)); exact BK505.out) hb); have n8_ := Aside0.mk (below_step (by repeat (first | (with_reducible first | exact HB.out | apply below_alloc | apply pw_below_drewN | apply below_drew1 | refine below_set ?_ GE481.out | refine below_set ?_ GE482.out | refine below_set ?_ GE491.out | refine below_set ?_ GE498.out | refine below_set ?_ GE505.out) | exact HB.out)) hb); clear HO489; clear HO496; clear HO503; clear BK481; clear BK482; clear BK491; clear BK498; clear BK505; clear HB; have HO489 := n0_; have HO496 := n1_; have HO503 := n2_; have BK481 := n3_; have BK482 := n4_; have BK491 := n5_; have BK498 := n6_; have BK505 := n7_; have HB := n8_; clear n0_ n1_ n2_ n3_ n4_ n5_ n6_ n7_ n8_; (try clear hb); (try clear hb2); (try clear hk); (try clear hi)))
                    go_meet
                    case rel => exact ⟨_, ((t490 != t506)), (by first | rfl | (simp; done) | (simp [*]; done)), H', ⟨by have := HJ6.out; first | omega | exact Nat.le_refl _⟩, ⟨by (with_reducible repeat (first | refine blk_drewN ?_ _ | refine blk_drew ?_ | refine blk_alloc ?_ _)); exact BK481.out⟩, ⟨by (with_reducible repeat (first | refine blk_drewN ?_ _ | refine blk_drew ?_ | refine blk_alloc ?_ _)); exact BK482.out⟩, ⟨by (with_reducible repeat (first | refine blk_drewN ?_ _ | refine blk_drew ?_ | refine blk_alloc ?_ _)); exact BK491.out⟩, ⟨by (with_reducible repeat (first | refine blk_drewN ?_ _ | refine blk_drew ?_ | refine blk_alloc ?_ _)); exact BK498.out⟩, ⟨by (with_reducible repeat (first | refine blk_drewN ?_ _ | refine blk_drew ?_ | refine blk_alloc ?_ _)); exact BK505.out⟩, ⟨by repeat (first | (with_reducible first | exact HB.out | apply below_alloc | apply pw_below_drewN | apply below_drew1 | refine below_set ?_ GE481.out | refine below_set ?_ GE482.out | refine below_set ?_ GE491.out | refine below_set ?_ GE498.out | refine below_set ?_ GE505.out) | exact HB.out)⟩⟩
              · rw [if_neg c49] at H
                have c49b0 : (t507 == 0) = false := beq_eq_false_iff_ne.mpr c49
                have c49b1 : (t507 != 0) = true := bne_iff_ne.mpr c49
                have H' := Aside0.mk H
                clear H
                have hnb100 := NB491_481.out
                have hnc100 := NB481_491.out
                have hnb101 := NB491_482.out
                have hnc101 := NB482_491.out
                have hnb102 := NB491_498.out
                have hnc102 := NB498_491.out
                have hnb103 := NB491_505.out
                have hnc103 := NB505_491.out
                have hcz104_0 : w46.cell? ⟨gb491, 0, none⟩ = some (.int .i64 t485) := (blk_cell BK491.out 0).trans rfl
                have hcz104_1 : w46.cell? ⟨gb491, 1, none⟩ = some (.string t486) := (blk_cell BK491.out 1).trans rfl
                have hfz104_0 := blk_frozen BK491.out 0
                have hfz104_1 := blk_frozen BK491.out 1
                go_wp2_with (first | (go_at_call 27; (with_reducible refine (origin_Check.calls kj6 t485 t486 _ _ l1 t507 _ ?side1 ?side2 A48.out).mono ?_); (case side1 => repeat (first | exact (Kd.C_below HR1.out HB.out) | (with_reducible refine Kd.C_alloc ?_ _) | (with_reducible refine Kd.C_drewN ?_ _) | (with_reducible refine Kd.C_drew ?_))); (case side2 => exact HC1.out); rintro e w105 ⟨rfl, hb⟩; have n0_ := Aside0.mk (Kd.R_below (by (with_reducible repeat (first | apply Kd.R_alloc | apply Kd.R_drewN | apply Kd.R_drew)); exact HO489.out) hb); have n1_ := Aside0.mk (Kd.R_below (by (with_reducible repeat (first | apply Kd.R_alloc | apply Kd.R_drewN | apply Kd.R_drew)); exact HO496.out) hb); have n2_ := Aside0.mk (Kd.R_below (by (with_reducible repeat (first | apply Kd.R_alloc | apply Kd.R_drewN | apply Kd.R_drew)); exact HO503.out) hb); have n3_ := Aside0.mk (blk_below (g := gb481) (o := .cells #[.int .i64 a0_0, .string a0_1] 45 (0, 0)) (by (with_reducible repeat (first | refine blk_drewN ?_ _ | refine blk_drew ?_ | refine blk_alloc ?_ _)); exact BK481.out) hb); have n4_ := Aside0.mk (blk_below (g := gb482) (o := .cells #[.int .i64 a2_0, .int .i64 a2_1, .int .u8 a2_2] 47 (0, 0)) (by (with_reducible repeat (first | refine blk_drewN ?_ _ | refine blk_drew ?_ | refine blk_alloc ?_ _)); exact BK482.out) hb); have n5_ := Aside0.mk (blk_below (g := gb491) (o := .cells #[.int .i64 t485, .string t486] 45 (0, 0)) (by (with_reducible repeat (first | refine blk_drewN ?_ _ | refine blk_drew ?_ | refine blk_alloc ?_ _)); exact BK491.out) hb); have n6_ := Aside0.mk (blk_below (g := gb498) (o := .cells #[.int .i64 t492, .string t493] 45 (0, 0)) (by (with_reducible repeat (first | refine blk_drewN ?_ _ | refine blk_drew ?_ | refine blk_alloc ?_ _)); exact BK498.out) hb); have n7_ := Aside0.mk (blk_below (g := gb505) (o := .cells #[.int .i64 t499, .string t500] 45 (0, 0)) (by (with_reducible repeat (first | refine blk_drewN ?_ _ | refine blk_drew ?_ | refine blk_alloc ?_ _)); exact BK505.out) hb); have n8_ := Aside0.mk (below_step (by repeat (first | (with_reducible first | exact HB.out | apply below_alloc | apply pw_below_drewN | apply below_drew1 | refine below_set ?_ GE481.out | refine below_set ?_ GE482.out | refine below_set ?_ GE491.out | refine below_set ?_ GE498.out | refine below_set ?_ GE505.out) | exact HB.out)) hb); clear HO489; clear HO496; clear HO503; clear BK481; clear BK482; clear BK491; clear BK498; clear BK505; clear HB; have HO489 := n0_; have HO496 := n1_; have HO503 := n2_; have BK481 := n3_; have BK482 := n4_; have BK491 := n5_; have BK498 := n6_; have BK505 := n7_; have HB := n8_; clear n0_ n1_ n2_ n3_ n4_ n5_ n6_ n7_ n8_; (try clear hb); (try clear hb2); (try clear hk); (try clear hi)))
                go_meet
                case rel => exact ⟨_, (true), (by first | rfl | (simp; done) | (simp [*]; done)), H', ⟨by have := HJ6.out; first | omega | exact Nat.le_refl _⟩, ⟨by (with_reducible repeat (first | refine blk_drewN ?_ _ | refine blk_drew ?_ | refine blk_alloc ?_ _)); exact BK481.out⟩, ⟨by (with_reducible repeat (first | refine blk_drewN ?_ _ | refine blk_drew ?_ | refine blk_alloc ?_ _)); exact BK482.out⟩, ⟨by (with_reducible repeat (first | refine blk_drewN ?_ _ | refine blk_drew ?_ | refine blk_alloc ?_ _)); exact BK491.out⟩, ⟨by (with_reducible repeat (first | refine blk_drewN ?_ _ | refine blk_drew ?_ | refine blk_alloc ?_ _)); exact BK498.out⟩, ⟨by (with_reducible repeat (first | refine blk_drewN ?_ _ | refine blk_drew ?_ | refine blk_alloc ?_ _)); exact BK505.out⟩, ⟨by repeat (first | (with_reducible first | exact HB.out | apply below_alloc | apply pw_below_drewN | apply below_drew1 | refine below_set ?_ GE481.out | refine below_set ?_ GE482.out | refine below_set ?_ GE491.out | refine below_set ?_ GE498.out | refine below_set ?_ GE505.out) | exact HB.out)⟩⟩
            · rw [if_neg c47] at H
              have c47b0 : (t490 == 0) = false := beq_eq_false_iff_ne.mpr c47
              have c47b1 : (t490 != 0) = true := bne_iff_ne.mpr c47
              (first | rw [c47b0] | (simp only [i64_w, i32_w]; rw [c47b0]) | skip)
              by_cases c106 : t497 = 0
              · rw [if_pos c106] at H
                have c106b0 : (t497 == 0) = true := beq_iff_eq.mpr c106
                have c106b1 : (t497 != 0) = false := bne_eq_false_iff_eq.mpr c106
                clear c106
                replace H := Option.bind_eq_some_iff.mp H
                obtain ⟨t509, A1070, H⟩ := H
                replace H : (if t509 = 0 then (if t506 = 0 then (crossbarlaw16_OriginStaysValid.j1 kj6 t504 t506 false a0_0 a0_1 t499 t500) else (crossbarlaw16_OriginStaysValid.j1 kj6 t504 t506 (t490 != t506) a0_0 a0_1 t499 t500)) else (crossbarlaw16_OriginStaysValid.j1 kj6 t504 t506 true a0_0 a0_1 t499 t500)) = some r := H
                have A107 := Aside0.mk A1070
                clear A1070
                by_cases c108 : t509 = 0
                · rw [if_pos c108] at H
                  have c108b0 : (t509 == 0) = true := beq_iff_eq.mpr c108
                  have c108b1 : (t509 != 0) = false := bne_eq_false_iff_eq.mpr c108
                  clear c108
                  by_cases c109 : t506 = 0
                  · rw [if_pos c109] at H
                    have c109b0 : (t506 == 0) = true := beq_iff_eq.mpr c109
                    have c109b1 : (t506 != 0) = false := bne_eq_false_iff_eq.mpr c109
                    clear c109
                    have H' := Aside0.mk H
                    clear H
                    have hnb110 := NB498_481.out
                    have hnc110 := NB481_498.out
                    have hnb111 := NB498_482.out
                    have hnc111 := NB482_498.out
                    have hnb112 := NB498_491.out
                    have hnc112 := NB491_498.out
                    have hnb113 := NB498_505.out
                    have hnc113 := NB505_498.out
                    have hcz114_0 : w46.cell? ⟨gb498, 0, none⟩ = some (.int .i64 t492) := (blk_cell BK498.out 0).trans rfl
                    have hcz114_1 : w46.cell? ⟨gb498, 1, none⟩ = some (.string t493) := (blk_cell BK498.out 1).trans rfl
                    have hfz114_0 := blk_frozen BK498.out 0
                    have hfz114_1 := blk_frozen BK498.out 1
                    go_wp2_with (first | (go_at_call 27; (with_reducible refine (origin_Check.calls kj6 t492 t493 _ _ l1 t509 _ ?side1 ?side2 A107.out).mono ?_); (case side1 => repeat (first | exact (Kd.C_below HR1.out HB.out) | (with_reducible refine Kd.C_alloc ?_ _) | (with_reducible refine Kd.C_drewN ?_ _) | (with_reducible refine Kd.C_drew ?_))); (case side2 => exact HC1.out); rintro e w115 ⟨rfl, hb⟩; have n0_ := Aside0.mk (Kd.R_below (by (with_reducible repeat (first | apply Kd.R_alloc | apply Kd.R_drewN | apply Kd.R_drew)); exact HO489.out) hb); have n1_ := Aside0.mk (Kd.R_below (by (with_reducible repeat (first | apply Kd.R_alloc | apply Kd.R_drewN | apply Kd.R_drew)); exact HO496.out) hb); have n2_ := Aside0.mk (Kd.R_below (by (with_reducible repeat (first | apply Kd.R_alloc | apply Kd.R_drewN | apply Kd.R_drew)); exact HO503.out) hb); have n3_ := Aside0.mk (blk_below (g := gb481) (o := .cells #[.int .i64 a0_0, .string a0_1] 45 (0, 0)) (by (with_reducible repeat (first | refine blk_drewN ?_ _ | refine blk_drew ?_ | refine blk_alloc ?_ _)); exact BK481.out) hb); have n4_ := Aside0.mk (blk_below (g := gb482) (o := .cells #[.int .i64 a2_0, .int .i64 a2_1, .int .u8 a2_2] 47 (0, 0)) (by (with_reducible repeat (first | refine blk_drewN ?_ _ | refine blk_drew ?_ | refine blk_alloc ?_ _)); exact BK482.out) hb); have n5_ := Aside0.mk (blk_below (g := gb491) (o := .cells #[.int .i64 t485, .string t486] 45 (0, 0)) (by (with_reducible repeat (first | refine blk_drewN ?_ _ | refine blk_drew ?_ | refine blk_alloc ?_ _)); exact BK491.out) hb); have n6_ := Aside0.mk (blk_below (g := gb498) (o := .cells #[.int .i64 t492, .string t493] 45 (0, 0)) (by (with_reducible repeat (first | refine blk_drewN ?_ _ | refine blk_drew ?_ | refine blk_alloc ?_ _)); exact BK498.out) hb); have n7_ := Aside0.mk (blk_below (g := gb505) (o := .cells #[.int .i64 t499, .string t500] 45 (0, 0)) (by (with_reducible repeat (first | refine blk_drewN ?_ _ | refine blk_drew ?_ | refine blk_alloc ?_ _)); exact BK505.out) hb); have n8_ := Aside0.mk (below_step (by repeat (first | (with_reducible first | exact HB.out | apply below_alloc | apply pw_below_drewN | apply below_drew1 | refine below_set ?_ GE481.out | refine below_set ?_ GE482.out | refine below_set ?_ GE491.out | refine below_set ?_ GE498.out | refine below_set ?_ GE505.out) | exact HB.out)) hb); clear HO489; clear HO496; clear HO503; clear BK481; clear BK482; clear BK491; clear BK498; clear BK505; clear HB; have HO489 := n0_; have HO496 := n1_; have HO503 := n2_; have BK481 := n3_; have BK482 := n4_; have BK491 := n5_; have BK498 := n6_; have BK505 := n7_; have HB := n8_; clear n0_ n1_ n2_ n3_ n4_ n5_ n6_ n7_ n8_; (try clear hb); (try clear hb2); (try clear hk); (try clear hi)))
                    go_meet
                    case rel => exact ⟨_, (false), (by first | rfl | (simp; done) | (simp [*]; done)), H', ⟨by have := HJ6.out; first | omega | exact Nat.le_refl _⟩, ⟨by (with_reducible repeat (first | refine blk_drewN ?_ _ | refine blk_drew ?_ | refine blk_alloc ?_ _)); exact BK481.out⟩, ⟨by (with_reducible repeat (first | refine blk_drewN ?_ _ | refine blk_drew ?_ | refine blk_alloc ?_ _)); exact BK482.out⟩, ⟨by (with_reducible repeat (first | refine blk_drewN ?_ _ | refine blk_drew ?_ | refine blk_alloc ?_ _)); exact BK491.out⟩, ⟨by (with_reducible repeat (first | refine blk_drewN ?_ _ | refine blk_drew ?_ | refine blk_alloc ?_ _)); exact BK498.out⟩, ⟨by (with_reducible repeat (first | refine blk_drewN ?_ _ | refine blk_drew ?_ | refine blk_alloc ?_ _)); exact BK505.out⟩, ⟨by repeat (first | (with_reducible first | exact HB.out | apply below_alloc | apply pw_below_drewN | apply below_drew1 | refine below_set ?_ GE481.out | refine below_set ?_ GE482.out | refine below_set ?_ GE491.out | refine below_set ?_ GE498.out | refine below_set ?_ GE505.out) | exact HB.out)⟩⟩
                  · rw [if_neg c109] at H
                    have c109b0 : (t506 == 0) = false := beq_eq_false_iff_ne.mpr c109
                    have c109b1 : (t506 != 0) = true := bne_iff_ne.mpr c109
                    have H' := Aside0.mk H
                    clear H
                    have hnb116 := NB498_481.out
                    have hnc116 := NB481_498.out
                    have hnb117 := NB498_482.out
                    have hnc117 := NB482_498.out
                    have hnb118 := NB498_491.out
                    have hnc118 := NB491_498.out
                    have hnb119 := NB498_505.out
                    have hnc119 := NB505_498.out
                    have hcz120_0 : w46.cell? ⟨gb498, 0, none⟩ = some (.int .i64 t492) := (blk_cell BK498.out 0).trans rfl
                    have hcz120_1 : w46.cell? ⟨gb498, 1, none⟩ = some (.string t493) := (blk_cell BK498.out 1).trans rfl
                    have hfz120_0 := blk_frozen BK498.out 0
                    have hfz120_1 := blk_frozen BK498.out 1
                    go_wp2_with (first | (go_at_call 27; (with_reducible refine (origin_Check.calls kj6 t492 t493 _ _ l1 t509 _ ?side1 ?side2 A107.out).mono ?_); (case side1 => repeat (first | exact (Kd.C_below HR1.out HB.out) | (with_reducible refine Kd.C_alloc ?_ _) | (with_reducible refine Kd.C_drewN ?_ _) | (with_reducible refine Kd.C_drew ?_))); (case side2 => exact HC1.out); rintro e w121 ⟨rfl, hb⟩; have n0_ := Aside0.mk (Kd.R_below (by (with_reducible repeat (first | apply Kd.R_alloc | apply Kd.R_drewN | apply Kd.R_drew)); exact HO489.out) hb); have n1_ := Aside0.mk (Kd.R_below (by (with_reducible repeat (first | apply Kd.R_alloc | apply Kd.R_drewN | apply Kd.R_drew)); exact HO496.out) hb); have n2_ := Aside0.mk (Kd.R_below (by (with_reducible repeat (first | apply Kd.R_alloc | apply Kd.R_drewN | apply Kd.R_drew)); exact HO503.out) hb); have n3_ := Aside0.mk (blk_below (g := gb481) (o := .cells #[.int .i64 a0_0, .string a0_1] 45 (0, 0)) (by (with_reducible repeat (first | refine blk_drewN ?_ _ | refine blk_drew ?_ | refine blk_alloc ?_ _)); exact BK481.out) hb); have n4_ := Aside0.mk (blk_below (g := gb482) (o := .cells #[.int .i64 a2_0, .int .i64 a2_1, .int .u8 a2_2] 47 (0, 0)) (by (with_reducible repeat (first | refine blk_drewN ?_ _ | refine blk_drew ?_ | refine blk_alloc ?_ _)); exact BK482.out) hb); have n5_ := Aside0.mk (blk_below (g := gb491) (o := .cells #[.int .i64 t485, .string t486] 45 (0, 0)) (by (with_reducible repeat (first | refine blk_drewN ?_ _ | refine blk_drew ?_ | refine blk_alloc ?_ _)); exact BK491.out) hb); have n6_ := Aside0.mk (blk_below (g := gb498) (o := .cells #[.int .i64 t492, .string t493] 45 (0, 0)) (by (with_reducible repeat (first | refine blk_drewN ?_ _ | refine blk_drew ?_ | refine blk_alloc ?_ _)); exact BK498.out) hb); have n7_ := Aside0.mk (blk_below (g := gb505) (o := .cells #[.int .i64 t499, .string t500] 45 (0, 0)) (by (with_reducible repeat (first | refine blk_drewN ?_ _ | refine blk_drew ?_ | refine blk_alloc ?_ _)); exact BK505.out) hb); have n8_ := Aside0.mk (below_step (by repeat (first | (with_reducible first | exact HB.out | apply below_alloc | apply pw_below_drewN | apply below_drew1 | refine below_set ?_ GE481.out | refine below_set ?_ GE482.out | refine below_set ?_ GE491.out | refine below_set ?_ GE498.out | refine below_set ?_ GE505.out) | exact HB.out)) hb); clear HO489; clear HO496; clear HO503; clear BK481; clear BK482; clear BK491; clear BK498; clear BK505; clear HB; have HO489 := n0_; have HO496 := n1_; have HO503 := n2_; have BK481 := n3_; have BK482 := n4_; have BK491 := n5_; have BK498 := n6_; have BK505 := n7_; have HB := n8_; clear n0_ n1_ n2_ n3_ n4_ n5_ n6_ n7_ n8_; (try clear hb); (try clear hb2); (try clear hk); (try clear hi)))
                    go_meet
                    case rel => exact ⟨_, ((t490 != t506)), (by first | rfl | (simp; done) | (simp [*]; done)), H', ⟨by have := HJ6.out; first | omega | exact Nat.le_refl _⟩, ⟨by (with_reducible repeat (first | refine blk_drewN ?_ _ | refine blk_drew ?_ | refine blk_alloc ?_ _)); exact BK481.out⟩, ⟨by (with_reducible repeat (first | refine blk_drewN ?_ _ | refine blk_drew ?_ | refine blk_alloc ?_ _)); exact BK482.out⟩, ⟨by (with_reducible repeat (first | refine blk_drewN ?_ _ | refine blk_drew ?_ | refine blk_alloc ?_ _)); exact BK491.out⟩, ⟨by (with_reducible repeat (first | refine blk_drewN ?_ _ | refine blk_drew ?_ | refine blk_alloc ?_ _)); exact BK498.out⟩, ⟨by (with_reducible repeat (first | refine blk_drewN ?_ _ | refine blk_drew ?_ | refine blk_alloc ?_ _)); exact BK505.out⟩, ⟨by repeat (first | (with_reducible first | exact HB.out | apply below_alloc | apply pw_below_drewN | apply below_drew1 | refine below_set ?_ GE481.out | refine below_set ?_ GE482.out | refine below_set ?_ GE491.out | refine below_set ?_ GE498.out | refine below_set ?_ GE505.out) | exact HB.out)⟩⟩
                · rw [if_neg c108] at H
                  have c108b0 : (t509 == 0) = false := beq_eq_false_iff_ne.mpr c108
                  have c108b1 : (t509 != 0) = true := bne_iff_ne.mpr c108
                  have H' := Aside0.mk H
                  clear H
                  have hnb122 := NB498_481.out
                  have hnc122 := NB481_498.out
                  have hnb123 := NB498_482.out
                  have hnc123 := NB482_498.out
                  have hnb124 := NB498_491.out
                  have hnc124 := NB491_498.out
                  have hnb125 := NB498_505.out
                  have hnc125 := NB505_498.out
                  have hcz126_0 : w46.cell? ⟨gb498, 0, none⟩ = some (.int .i64 t492) := (blk_cell BK498.out 0).trans rfl
                  have hcz126_1 : w46.cell? ⟨gb498, 1, none⟩ = some (.string t493) := (blk_cell BK498.out 1).trans rfl
                  have hfz126_0 := blk_frozen BK498.out 0
                  have hfz126_1 := blk_frozen BK498.out 1
                  go_wp2_with (first | (go_at_call 27; (with_reducible refine (origin_Check.calls kj6 t492 t493 _ _ l1 t509 _ ?side1 ?side2 A107.out).mono ?_); (case side1 => repeat (first | exact (Kd.C_below HR1.out HB.out) | (with_reducible refine Kd.C_alloc ?_ _) | (with_reducible refine Kd.C_drewN ?_ _) | (with_reducible refine Kd.C_drew ?_))); (case side2 => exact HC1.out); rintro e w127 ⟨rfl, hb⟩; have n0_ := Aside0.mk (Kd.R_below (by (with_reducible repeat (first | apply Kd.R_alloc | apply Kd.R_drewN | apply Kd.R_drew)); exact HO489.out) hb); have n1_ := Aside0.mk (Kd.R_below (by (with_reducible repeat (first | apply Kd.R_alloc | apply Kd.R_drewN | apply Kd.R_drew)); exact HO496.out) hb); have n2_ := Aside0.mk (Kd.R_below (by (with_reducible repeat (first | apply Kd.R_alloc | apply Kd.R_drewN | apply Kd.R_drew)); exact HO503.out) hb); have n3_ := Aside0.mk (blk_below (g := gb481) (o := .cells #[.int .i64 a0_0, .string a0_1] 45 (0, 0)) (by (with_reducible repeat (first | refine blk_drewN ?_ _ | refine blk_drew ?_ | refine blk_alloc ?_ _)); exact BK481.out) hb); have n4_ := Aside0.mk (blk_below (g := gb482) (o := .cells #[.int .i64 a2_0, .int .i64 a2_1, .int .u8 a2_2] 47 (0, 0)) (by (with_reducible repeat (first | refine blk_drewN ?_ _ | refine blk_drew ?_ | refine blk_alloc ?_ _)); exact BK482.out) hb); have n5_ := Aside0.mk (blk_below (g := gb491) (o := .cells #[.int .i64 t485, .string t486] 45 (0, 0)) (by (with_reducible repeat (first | refine blk_drewN ?_ _ | refine blk_drew ?_ | refine blk_alloc ?_ _)); exact BK491.out) hb); have n6_ := Aside0.mk (blk_below (g := gb498) (o := .cells #[.int .i64 t492, .string t493] 45 (0, 0)) (by (with_reducible repeat (first | refine blk_drewN ?_ _ | refine blk_drew ?_ | refine blk_alloc ?_ _)); exact BK498.out) hb); have n7_ := Aside0.mk (blk_below (g := gb505) (o := .cells #[.int .i64 t499, .string t500] 45 (0, 0)) (by (with_reducible repeat (first | refine blk_drewN ?_ _ | refine blk_drew ?_ | refine blk_alloc ?_ _)); exact BK505.out) hb); have n8_ := Aside0.mk (below_step (by repeat (first | (with_reducible first | exact HB.out | apply below_alloc | apply pw_below_drewN | apply below_drew1 | refine below_set ?_ GE481.out | refine below_set ?_ GE482.out | refine below_set ?_ GE491.out | refine below_set ?_ GE498.out | refine below_set ?_ GE505.out) | exact HB.out)) hb); clear HO489; clear HO496; clear HO503; clear BK481; clear BK482; clear BK491; clear BK498; clear BK505; clear HB; have HO489 := n0_; have HO496 := n1_; have HO503 := n2_; have BK481 := n3_; have BK482 := n4_; have BK491 := n5_; have BK498 := n6_; have BK505 := n7_; have HB := n8_; clear n0_ n1_ n2_ n3_ n4_ n5_ n6_ n7_ n8_; (try clear hb); (try clear hb2); (try clear hk); (try clear hi)))
                  go_meet
                  case rel => exact ⟨_, (true), (by first | rfl | (simp; done) | (simp [*]; done)), H', ⟨by have := HJ6.out; first | omega | exact Nat.le_refl _⟩, ⟨by (with_reducible repeat (first | refine blk_drewN ?_ _ | refine blk_drew ?_ | refine blk_alloc ?_ _)); exact BK481.out⟩, ⟨by (with_reducible repeat (first | refine blk_drewN ?_ _ | refine blk_drew ?_ | refine blk_alloc ?_ _)); exact BK482.out⟩, ⟨by (with_reducible repeat (first | refine blk_drewN ?_ _ | refine blk_drew ?_ | refine blk_alloc ?_ _)); exact BK491.out⟩, ⟨by (with_reducible repeat (first | refine blk_drewN ?_ _ | refine blk_drew ?_ | refine blk_alloc ?_ _)); exact BK498.out⟩, ⟨by (with_reducible repeat (first | refine blk_drewN ?_ _ | refine blk_drew ?_ | refine blk_alloc ?_ _)); exact BK505.out⟩, ⟨by repeat (first | (with_reducible first | exact HB.out | apply below_alloc | apply pw_below_drewN | apply below_drew1 | refine below_set ?_ GE481.out | refine below_set ?_ GE482.out | refine below_set ?_ GE491.out | refine below_set ?_ GE498.out | refine below_set ?_ GE505.out) | exact HB.out)⟩⟩
              · rw [if_neg c106] at H
                have c106b0 : (t497 == 0) = false := beq_eq_false_iff_ne.mpr c106
                have c106b1 : (t497 != 0) = true := bne_iff_ne.mpr c106
                by_cases c128 : t506 = 0
                · rw [if_pos c128] at H
                  have c128b0 : (t506 == 0) = true := beq_iff_eq.mpr c128
                  have c128b1 : (t506 != 0) = false := bne_eq_false_iff_eq.mpr c128
                  clear c128
                  have H' := Aside0.mk H
                  clear H
                  go_wp2
                  go_meet
                  case rel => exact ⟨_, (false), (by first | rfl | (simp; done) | (simp [*]; done)), H', ⟨by have := HJ6.out; first | omega | exact Nat.le_refl _⟩, ⟨by (with_reducible repeat (first | refine blk_drewN ?_ _ | refine blk_drew ?_ | refine blk_alloc ?_ _)); exact BK481.out⟩, ⟨by (with_reducible repeat (first | refine blk_drewN ?_ _ | refine blk_drew ?_ | refine blk_alloc ?_ _)); exact BK482.out⟩, ⟨by (with_reducible repeat (first | refine blk_drewN ?_ _ | refine blk_drew ?_ | refine blk_alloc ?_ _)); exact BK491.out⟩, ⟨by (with_reducible repeat (first | refine blk_drewN ?_ _ | refine blk_drew ?_ | refine blk_alloc ?_ _)); exact BK498.out⟩, ⟨by (with_reducible repeat (first | refine blk_drewN ?_ _ | refine blk_drew ?_ | refine blk_alloc ?_ _)); exact BK505.out⟩, ⟨by repeat (first | (with_reducible first | exact HB.out | apply below_alloc | apply pw_below_drewN | apply below_drew1 | refine below_set ?_ GE481.out | refine below_set ?_ GE482.out | refine below_set ?_ GE491.out | refine below_set ?_ GE498.out | refine below_set ?_ GE505.out) | exact HB.out)⟩⟩
                · rw [if_neg c128] at H
                  have c128b0 : (t506 == 0) = false := beq_eq_false_iff_ne.mpr c128
                  have c128b1 : (t506 != 0) = true := bne_iff_ne.mpr c128
                  have H' := Aside0.mk H
                  clear H
                  go_wp2
                  go_meet
                  case rel => exact ⟨_, ((t490 != t506)), (by first | rfl | (simp; done) | (simp [*]; done)), H', ⟨by have := HJ6.out; first | omega | exact Nat.le_refl _⟩, ⟨by (with_reducible repeat (first | refine blk_drewN ?_ _ | refine blk_drew ?_ | refine blk_alloc ?_ _)); exact BK481.out⟩, ⟨by (with_reducible repeat (first | refine blk_drewN ?_ _ | refine blk_drew ?_ | refine blk_alloc ?_ _)); exact BK482.out⟩, ⟨by (with_reducible repeat (first | refine blk_drewN ?_ _ | refine blk_drew ?_ | refine blk_alloc ?_ _)); exact BK491.out⟩, ⟨by (with_reducible repeat (first | refine blk_drewN ?_ _ | refine blk_drew ?_ | refine blk_alloc ?_ _)); exact BK498.out⟩, ⟨by (with_reducible repeat (first | refine blk_drewN ?_ _ | refine blk_drew ?_ | refine blk_alloc ?_ _)); exact BK505.out⟩, ⟨by repeat (first | (with_reducible first | exact HB.out | apply below_alloc | apply pw_below_drewN | apply below_drew1 | refine below_set ?_ GE481.out | refine below_set ?_ GE482.out | refine below_set ?_ GE491.out | refine below_set ?_ GE498.out | refine below_set ?_ GE505.out) | exact HB.out)⟩⟩
          case rest =>
            clear HC22
            try clear c1
            try clear c2
            try clear p2
            try clear c3
            try clear c4
            try clear c5
            try clear c6
            try clear c7
            try clear c8
            try clear c9
            try clear c10
            try clear c11
            try clear c12
            try clear c13
            try clear c15
            try clear c17
            try clear c22
            try clear c23
            try clear c24
            try clear c27
            try clear c28
            try clear c29
            try clear c33
            try clear c34
            try clear c35
            try clear c40
            try clear c41
            try clear c42
            try clear c43
            try clear c47
            try clear c47b0
            try clear c47b1
            try clear c49
            try clear c49b0
            try clear c49b1
            try clear c50
            try clear c50b0
            try clear c50b1
            try clear c52
            try clear c52b0
            try clear c52b1
            try clear c53
            try clear c53b0
            try clear c53b1
            try clear c54
            try clear c55
            try clear c56
            try clear c57
            try clear c60
            try clear c61
            try clear c62
            try clear c65
            try clear c66
            try clear c67
            try clear c68
            try clear c71
            try clear c72
            try clear c73
            try clear c76
            try clear c77
            try clear c78
            try clear c79
            try clear c82
            try clear c83
            try clear c84
            try clear c87
            try clear c87b0
            try clear c87b1
            try clear c88
            try clear c89
            try clear c90
            try clear c91
            try clear c94
            try clear c95
            try clear c96
            try clear c97
            try clear c100
            try clear c101
            try clear c102
            try clear c103
            try clear c106
            try clear c106b0
            try clear c106b1
            try clear c108
            try clear c108b0
            try clear c108b1
            try clear c109
            try clear c109b0
            try clear c109b1
            try clear c110
            try clear c111
            try clear c112
            try clear c113
            try clear c116
            try clear c117
            try clear c118
            try clear c119
            try clear c122
            try clear c123
            try clear c124
            try clear c125
            try clear c128
            try clear c128b0
            try clear c128b1
            try clear hcz104_0
            try clear hcz104_1
            try clear hcz114_0
            try clear hcz114_1
            try clear hcz120_0
            try clear hcz120_1
            try clear hcz126_0
            try clear hcz126_1
            try clear hcz14_0
            try clear hcz14_1
            try clear hcz16_0
            try clear hcz16_1
            try clear hcz24_0
            try clear hcz24_1
            try clear hcz25_0
            try clear hcz25_1
            try clear hcz25_2
            try clear hcz30_0
            try clear hcz30_1
            try clear hcz36_0
            try clear hcz36_1
            try clear hcz37_0
            try clear hcz37_1
            try clear hcz44_0
            try clear hcz44_1
            try clear hcz45_0
            try clear hcz45_1
            try clear hcz58_0
            try clear hcz58_1
            try clear hcz63_0
            try clear hcz63_1
            try clear hcz69_0
            try clear hcz69_1
            try clear hcz74_0
            try clear hcz74_1
            try clear hcz80_0
            try clear hcz80_1
            try clear hcz85_0
            try clear hcz85_1
            try clear hcz92_0
            try clear hcz92_1
            try clear hcz98_0
            try clear hcz98_1
            try clear hfz104_0
            try clear hfz104_1
            try clear hfz114_0
            try clear hfz114_1
            try clear hfz120_0
            try clear hfz120_1
            try clear hfz126_0
            try clear hfz126_1
            try clear hfz14_0
            try clear hfz14_1
            try clear hfz16_0
            try clear hfz16_1
            try clear hfz24_0
            try clear hfz24_1
            try clear hfz25_0
            try clear hfz25_1
            try clear hfz25_2
            try clear hfz30_0
            try clear hfz30_1
            try clear hfz36_0
            try clear hfz36_1
            try clear hfz37_0
            try clear hfz37_1
            try clear hfz44_0
            try clear hfz44_1
            try clear hfz45_0
            try clear hfz45_1
            try clear hfz58_0
            try clear hfz58_1
            try clear hfz63_0
            try clear hfz63_1
            try clear hfz69_0
            try clear hfz69_1
            try clear hfz74_0
            try clear hfz74_1
            try clear hfz80_0
            try clear hfz80_1
            try clear hfz85_0
            try clear hfz85_1
            try clear hfz92_0
            try clear hfz92_1
            try clear hfz98_0
            try clear hfz98_1
            try clear p2
            obtain ⟨kq, x83_21, rfl, HA, HJ21, BK481, BK482, BK491, BK498, BK505, HB⟩ := hcut
            cases kq with
            | zero => exact absurd HA.out (by simp [crossbarlaw16_OriginStaysValid.j1])
            | succ kj21 =>
              have H := HA.out
              clear HA
              simp only [crossbarlaw16_OriginStaysValid.j1] at H
              by_cases c129 : x83_21 = true
              · subst c129
                have H1 : (some false) = some r := by rw [if_pos rfl] at H; exact H
                clear H
                have H := H1
                clear H1
                exact absurd ((Option.some.inj H).trans ht) (by decide)
              · replace c129 := Bool.eq_false_iff.mpr c129
                subst c129
                have H1 : (if t506 = 0 then (if a0_0 = 0 then (some (t504 == 160)) else (if t504 = 0 then (some (t499 == 0 && (t500.toList == ([] : List UInt8)))) else (some false))) else (some (t504 == t506))) = some r := by rw [if_neg (show ¬ (false = true) by decide)] at H; exact H
                clear H
                have H := H1
                clear H1
                by_cases c130 : t506 = 0
                · rw [if_pos c130] at H
                  have c130b0 : (t506 == 0) = true := beq_iff_eq.mpr c130
                  have c130b1 : (t506 != 0) = false := bne_eq_false_iff_eq.mpr c130
                  clear c130
                  by_cases c131 : a0_0 = 0
                  · rw [if_pos c131] at H
                    have c131b0 : (a0_0 == 0) = true := beq_iff_eq.mpr c131
                    have c131b1 : (a0_0 != 0) = false := bne_eq_false_iff_eq.mpr c131
                    clear c131
                    obtain rfl := Option.some.inj H
                    clear ht
                    have hnb132 := NB481_482.out
                    have hnc132 := NB482_481.out
                    have hnb133 := NB481_491.out
                    have hnc133 := NB491_481.out
                    have hnb134 := NB481_498.out
                    have hnc134 := NB498_481.out
                    have hnb135 := NB481_505.out
                    have hnc135 := NB505_481.out
                    have hcz136_0 : wc.cell? ⟨gb481, 0, none⟩ = some (.int .i64 a0_0) := (blk_cell BK481.out 0).trans rfl
                    have hcz136_1 : wc.cell? ⟨gb481, 1, none⟩ = some (.string a0_1) := (blk_cell BK481.out 1).trans rfl
                    have hfz136_0 := blk_frozen BK481.out 0
                    have hfz136_1 := blk_frozen BK481.out 1
                    go_wp2
                    go_ret
                    exact ⟨by first | rfl | (simp [errW_none, errW_some] <;> rfl) | (simp [*, errW_none, errW_some] <;> rfl), by repeat (first | (with_reducible first | exact HB.out | apply below_alloc | apply pw_below_drewN | apply below_drew1 | refine below_set ?_ GE481.out | refine below_set ?_ GE482.out | refine below_set ?_ GE491.out | refine below_set ?_ GE498.out | refine below_set ?_ GE505.out) | exact HB.out)⟩
                  · rw [if_neg c131] at H
                    have c131b0 : (a0_0 == 0) = false := beq_eq_false_iff_ne.mpr c131
                    have c131b1 : (a0_0 != 0) = true := bne_iff_ne.mpr c131
                    by_cases c137 : t504 = 0
                    · rw [if_pos c137] at H
                      have c137b0 : (t504 == 0) = true := beq_iff_eq.mpr c137
                      have c137b1 : (t504 != 0) = false := bne_eq_false_iff_eq.mpr c137
                      clear c137
                      obtain rfl := Option.some.inj H
                      clear ht
                      have hnb138 := NB481_482.out
                      have hnc138 := NB482_481.out
                      have hnb139 := NB481_491.out
                      have hnc139 := NB491_481.out
                      have hnb140 := NB481_498.out
                      have hnc140 := NB498_481.out
                      have hnb141 := NB481_505.out
                      have hnc141 := NB505_481.out
                      have hcz142_0 : wc.cell? ⟨gb481, 0, none⟩ = some (.int .i64 a0_0) := (blk_cell BK481.out 0).trans rfl
                      have hcz142_1 : wc.cell? ⟨gb481, 1, none⟩ = some (.string a0_1) := (blk_cell BK481.out 1).trans rfl
                      have hfz142_0 := blk_frozen BK481.out 0
                      have hfz142_1 := blk_frozen BK481.out 1
                      have hnb143 := NB505_482.out
                      have hnc143 := NB482_505.out
                      have hnb144 := NB505_491.out
                      have hnc144 := NB491_505.out
                      have hnb145 := NB505_498.out
                      have hnc145 := NB498_505.out
                      have hcz146_0 : wc.cell? ⟨gb505, 0, none⟩ = some (.int .i64 t499) := (blk_cell BK505.out 0).trans rfl
                      have hcz146_1 : wc.cell? ⟨gb505, 1, none⟩ = some (.string t500) := (blk_cell BK505.out 1).trans rfl
                      have hfz146_0 := blk_frozen BK505.out 0
                      have hfz146_1 := blk_frozen BK505.out 1
                      go_wp2
                      go_ret
                      exact ⟨by first | rfl | (simp [errW_none, errW_some] <;> rfl) | (simp [*, errW_none, errW_some] <;> rfl), by repeat (first | (with_reducible first | exact HB.out | apply below_alloc | apply pw_below_drewN | apply below_drew1 | refine below_set ?_ GE481.out | refine below_set ?_ GE482.out | refine below_set ?_ GE491.out | refine below_set ?_ GE498.out | refine below_set ?_ GE505.out) | exact HB.out)⟩
                    · rw [if_neg c137] at H
                      have c137b0 : (t504 == 0) = false := beq_eq_false_iff_ne.mpr c137
                      have c137b1 : (t504 != 0) = true := bne_iff_ne.mpr c137
                      exact absurd ((Option.some.inj H).trans ht) (by decide)
                · rw [if_neg c130] at H
                  have c130b0 : (t506 == 0) = false := beq_eq_false_iff_ne.mpr c130
                  have c130b1 : (t506 != 0) = true := bne_iff_ne.mpr c130
                  obtain rfl := Option.some.inj H
                  clear ht
                  go_wp2
                  go_ret
                  exact ⟨by first | rfl | (simp [errW_none, errW_some] <;> rfl) | (simp [*, errW_none, errW_some] <;> rfl), by repeat (first | (with_reducible first | exact HB.out | apply below_alloc | apply pw_below_drewN | apply below_drew1 | refine below_set ?_ GE481.out | refine below_set ?_ GE482.out | refine below_set ?_ GE491.out | refine below_set ?_ GE498.out | refine below_set ?_ GE505.out) | exact HB.out)⟩
  · replace c6 := Bool.eq_false_iff.mpr c6
    subst c6
    have H1 : (some false) = some r := by rw [if_neg (show ¬ (false = true) by decide)] at H; exact H
    clear H
    have H := H1
    clear H1
    exact absurd ((Option.some.inj H).trans ht) (by decide)
end Go.Proofs.YthknfclhkmehgaaDoor.Fn
