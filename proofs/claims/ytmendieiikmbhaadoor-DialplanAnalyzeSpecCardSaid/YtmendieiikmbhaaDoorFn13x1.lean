-- printed by a program of this session, out of the translation; Lean checks it
import Derived.Test.YtmendieiikmbhaaDoorFn0
import Derived.Test.YtmendieiikmbhaaDoorFn13
namespace Go.Proofs.YtmendieiikmbhaaDoor.Fn
open Go.RowKit Go.Proofs.YtmendieiikmbhaaDoorW.PrintWords Go.Proofs.YtmendieiikmbhaaDoorW.PrintLast Go.Proofs.YtmendieiikmbhaaDoorW.PrintMore
attribute [local go_sem] max2_int min2_int max_two min_two max_three min_three max_four min_four   -- for this text's walks alone
set_option linter.unusedVariables false
set_option linter.unusedSimpArgs false

/-! ### crossbarref08_Check: function 43 -/
mutual
def crossbarref08_Check.l0 : Nat → List (S61) → List (S61) → Int → Int → Option (Int)
  | 0, _, _, _, _ => none
  | k + 1, x0, x11, x12, x13 => if x13 < x12 then (if 0 ≤ x13 then (if x13 < (x11.length : Int) then (if (((rd_T61 x11 x13).f0).size : Int) < 1 then (crossbarref08_Check.j1 k x0 x13 x11 x12 x13 true ((rd_T61 x11 x13).f0) ((rd_T61 x11 x13).f1) ((rd_T61 x11 x13).f2) ((rd_T61 x11 x13).f3)) else (if (((rd_T61 x11 x13).f0).size : Int) > 15 then (crossbarref08_Check.j1 k x0 x13 x11 x12 x13 true ((rd_T61 x11 x13).f0) ((rd_T61 x11 x13).f1) ((rd_T61 x11 x13).f2) ((rd_T61 x11 x13).f3)) else ((crossbarref08_Digits.f k ((rd_T61 x11 x13).f0)).bind fun t230 => (if t230 = true then (if ((rd_T61 x11 x13).f3) < 1 then (crossbarref08_Check.j1 k x0 x13 x11 x12 x13 true ((rd_T61 x11 x13).f0) ((rd_T61 x11 x13).f1) ((rd_T61 x11 x13).f2) ((rd_T61 x11 x13).f3)) else (if ((rd_T61 x11 x13).f3) > 4 then (crossbarref08_Check.j1 k x0 x13 x11 x12 x13 true ((rd_T61 x11 x13).f0) ((rd_T61 x11 x13).f1) ((rd_T61 x11 x13).f2) ((rd_T61 x11 x13).f3)) else (if ((rd_T61 x11 x13).f1) < (((rd_T61 x11 x13).f0).size : Int) then (crossbarref08_Check.j1 k x0 x13 x11 x12 x13 true ((rd_T61 x11 x13).f0) ((rd_T61 x11 x13).f1) ((rd_T61 x11 x13).f2) ((rd_T61 x11 x13).f3)) else (if ((rd_T61 x11 x13).f2) < ((rd_T61 x11 x13).f1) then (crossbarref08_Check.j1 k x0 x13 x11 x12 x13 true ((rd_T61 x11 x13).f0) ((rd_T61 x11 x13).f1) ((rd_T61 x11 x13).f2) ((rd_T61 x11 x13).f3)) else (crossbarref08_Check.j1 k x0 x13 x11 x12 x13 (decide (((rd_T61 x11 x13).f2) > 20)) ((rd_T61 x11 x13).f0) ((rd_T61 x11 x13).f1) ((rd_T61 x11 x13).f2) ((rd_T61 x11 x13).f3)))))) else (crossbarref08_Check.j1 k x0 x13 x11 x12 x13 true ((rd_T61 x11 x13).f0) ((rd_T61 x11 x13).f1) ((rd_T61 x11 x13).f2) ((rd_T61 x11 x13).f3)))))) else (none)) else (none)) else (some 0)
def crossbarref08_Check.j1 : Nat → List (S61) → Int → List (S61) → Int → Int → Bool → ByteArray → Int → Int → Int → Option (Int)
  | 0, _, _, _, _, _, _, _, _, _, _ => none
  | k + 1, x0, x3, x11, x12, x13, x60, x230000, x230001, x230002, x230003 => if x60 = true then (some 80) else (if 0 ≤ x3 then (if x3 ≤ (x0.length : Int) then ((some (x0.take (x3 : Int).toNat : List (S61))).bind fun y231 => (crossbarref08_Check.l1 k x0 x11 x12 x13 y231 (y231.length : Int) 0 x230000 x230001 x230002 x230003)) else (none)) else (none))
def crossbarref08_Check.l1 : Nat → List (S61) → List (S61) → Int → Int → List (S61) → Int → Int → ByteArray → Int → Int → Int → Option (Int)
  | 0, _, _, _, _, _, _, _, _, _, _, _ => none
  | k + 1, x0, x11, x12, x13, x63, x64, x65, x230000, x230001, x230002, x230003 => if x65 < x64 then (if 0 ≤ x65 then (if x65 < (x63.length : Int) then (if ((rd_T61 x63 x65).f0).toList = x230000.toList then (some 80) else (crossbarref08_Check.l1 k x0 x11 x12 x13 x63 x64 (wrap64 (x65 + 1)) x230000 x230001 x230002 x230003)) else (none)) else (none)) else (crossbarref08_Check.l0 k x0 x11 x12 (wrap64 (x13 + 1)))
end
def crossbarref08_Check.f (k : Nat) (l0 : List (S61)) : Option (Int) := if (l0.length : Int) > 64 then (some 2) else (crossbarref08_Check.l0 k l0 l0 (l0.length : Int) 0)
theorem crossbarref08_Check.mono_l : ∀ k, (∀ y0 y1 y2 y3, LeO (crossbarref08_Check.l0 k y0 y1 y2 y3) (crossbarref08_Check.l0 (k + 1) y0 y1 y2 y3)) ∧ (∀ y0 y1 y2 y3 y4 y5 y6 y7 y8 y9, LeO (crossbarref08_Check.j1 k y0 y1 y2 y3 y4 y5 y6 y7 y8 y9) (crossbarref08_Check.j1 (k + 1) y0 y1 y2 y3 y4 y5 y6 y7 y8 y9)) ∧ (∀ y0 y1 y2 y3 y4 y5 y6 y7 y8 y9 y10, LeO (crossbarref08_Check.l1 k y0 y1 y2 y3 y4 y5 y6 y7 y8 y9 y10) (crossbarref08_Check.l1 (k + 1) y0 y1 y2 y3 y4 y5 y6 y7 y8 y9 y10))
  | 0 => ⟨fun _ _ _ _ r h => by simp [crossbarref08_Check.l0] at h, fun _ _ _ _ _ _ _ _ _ _ r h => by simp [crossbarref08_Check.j1] at h, fun _ _ _ _ _ _ _ _ _ _ _ r h => by simp [crossbarref08_Check.l1] at h⟩
  | k + 1 => by
    obtain ⟨ih0, ih1, ih2⟩ := crossbarref08_Check.mono_l k
    refine ⟨?_, ?_, ?_⟩
    · intro y0 y1 y2 y3
      unfold crossbarref08_Check.l0
      repeat' first
      | (with_reducible exact ih0 _ _ _ _)
      | (with_reducible exact ih1 _ _ _ _ _ _ _ _ _ _)
      | (with_reducible exact ih2 _ _ _ _ _ _ _ _ _ _ _)
      | (with_reducible exact crossbarref08_Digits.mono _ _)
      | (with_reducible exact LeO.refl _)
      | (with_reducible exact LeO.none _)
      | (with_reducible refine LeO.ite ?_ ?_)
      | (with_reducible refine LeO.bind ?_ (fun _ => ?_))
      | exact ih0 _ _ _ _
      | exact ih1 _ _ _ _ _ _ _ _ _ _
      | exact ih2 _ _ _ _ _ _ _ _ _ _ _
      | exact crossbarref08_Digits.mono _ _
      | exact LeO.none _
      | refine LeO.ite ?_ ?_
      | refine LeO.bind ?_ (fun _ => ?_)
    · intro y0 y1 y2 y3 y4 y5 y6 y7 y8 y9
      unfold crossbarref08_Check.j1
      repeat' first
      | (with_reducible exact ih0 _ _ _ _)
      | (with_reducible exact ih1 _ _ _ _ _ _ _ _ _ _)
      | (with_reducible exact ih2 _ _ _ _ _ _ _ _ _ _ _)
      | (with_reducible exact crossbarref08_Digits.mono _ _)
      | (with_reducible exact LeO.refl _)
      | (with_reducible exact LeO.none _)
      | (with_reducible refine LeO.ite ?_ ?_)
      | (with_reducible refine LeO.bind ?_ (fun _ => ?_))
      | exact ih0 _ _ _ _
      | exact ih1 _ _ _ _ _ _ _ _ _ _
      | exact ih2 _ _ _ _ _ _ _ _ _ _ _
      | exact crossbarref08_Digits.mono _ _
      | exact LeO.none _
      | refine LeO.ite ?_ ?_
      | refine LeO.bind ?_ (fun _ => ?_)
    · intro y0 y1 y2 y3 y4 y5 y6 y7 y8 y9 y10
      unfold crossbarref08_Check.l1
      repeat' first
      | (with_reducible exact ih0 _ _ _ _)
      | (with_reducible exact ih1 _ _ _ _ _ _ _ _ _ _)
      | (with_reducible exact ih2 _ _ _ _ _ _ _ _ _ _ _)
      | (with_reducible exact crossbarref08_Digits.mono _ _)
      | (with_reducible exact LeO.refl _)
      | (with_reducible exact LeO.none _)
      | (with_reducible refine LeO.ite ?_ ?_)
      | (with_reducible refine LeO.bind ?_ (fun _ => ?_))
      | exact ih0 _ _ _ _
      | exact ih1 _ _ _ _ _ _ _ _ _ _
      | exact ih2 _ _ _ _ _ _ _ _ _ _ _
      | exact crossbarref08_Digits.mono _ _
      | exact LeO.none _
      | refine LeO.ite ?_ ?_
      | refine LeO.bind ?_ (fun _ => ?_)
theorem crossbarref08_Check.mono : ∀ a0 k, LeO (crossbarref08_Check.f k a0) (crossbarref08_Check.f (k + 1) a0) := by
  intro a0 k
  obtain ⟨ih0, ih1, ih2⟩ := crossbarref08_Check.mono_l k
  unfold crossbarref08_Check.f
  repeat' first
      | (with_reducible exact ih0 _ _ _ _)
      | (with_reducible exact ih1 _ _ _ _ _ _ _ _ _ _)
      | (with_reducible exact ih2 _ _ _ _ _ _ _ _ _ _ _)
      | (with_reducible exact crossbarref08_Digits.mono _ _)
      | (with_reducible exact LeO.refl _)
      | (with_reducible exact LeO.none _)
      | (with_reducible refine LeO.ite ?_ ?_)
      | (with_reducible refine LeO.bind ?_ (fun _ => ?_))
      | exact ih0 _ _ _ _
      | exact ih1 _ _ _ _ _ _ _ _ _ _
      | exact ih2 _ _ _ _ _ _ _ _ _ _ _
      | exact crossbarref08_Digits.mono _ _
      | exact LeO.none _
      | refine LeO.ite ?_ ?_
      | refine LeO.bind ?_ (fun _ => ?_)
set_option maxHeartbeats 8000000 in
set_option maxRecDepth 100000 in
theorem crossbarref08_Check.calls (k : Nat) (A0 : Option Addr) (c0 : Nat) (l0 : List (S61)) (r : Int) (w : World) (hr0 : Kd.C k61 w A0 l0.length l0) (hc0 : l0.length ≤ c0) (h : crossbarref08_Check.f k l0 = some r) :
    Calls Tryd.prog 43 #[.slice A0 l0.length c0] w fun e w' => e = .returned (.int .i64 r) ∧ Below w.heap.size w w' := by
  have hu61 := Tryd.underlying61
  have HR0 := Aside0.mk hr0
  have HC0 := Aside0.mk hc0
  clear hr0 hc0
  have HB := Aside0.mk (Below.refl w.heap.size w)
  have H : (if (l0.length : Int) > 64 then (some 2) else (crossbarref08_Check.l0 k l0 l0 (l0.length : Int) 0)) = some r := h
  clear h
  by_cases c2 : (l0.length : Int) > 64
  · rw [if_pos c2] at H
    have c2b0 : decide (64 < (l0.length : Int)) = true := decide_eq_true c2
    have c2b1 : decide (64 < l0.length) = true := decide_eq_true (by omega)
    clear c2
    obtain rfl := Option.some.inj H
    go_enter Tryd.func43, Tryd.ntmps43
    go_wp2
    go_ret
    exact ⟨by first | rfl | (simp [errW_none, errW_some] <;> rfl) | (simp [*, errW_none, errW_some] <;> rfl), by repeat (first | (with_reducible first | exact HB.out | apply below_alloc | apply pw_below_drewN | apply below_drew1) | exact HB.out)⟩
  · rw [if_neg c2] at H
    have c2b0 : decide (64 < (l0.length : Int)) = false := decide_eq_false c2
    have c2b1 : decide (64 < l0.length) = false := decide_eq_false (by omega)
    clear c2
    have H' := Aside0.mk H
    clear H
    go_enter Tryd.func43, Tryd.ntmps43
    go_wp2
    go_loopg [13] k (fun kq v13 w' => ∃ (x13_1 : Int), v13 = .int .i64 x13_1 ∧ Aside0 (crossbarref08_Check.l0 kq l0 l0 (l0.length : Int) x13_1 = some r) ∧ Aside0 (kq ≤ k) ∧ Aside0 (Below w.heap.size w w'))
    case atStart => exact ⟨(0), (by first | rfl | (simp; done) | (simp [*]; done)), H', ⟨Nat.le_refl _⟩, ⟨by repeat (first | (with_reducible first | exact HB.out | apply below_alloc | apply pw_below_drewN | apply below_drew1) | exact HB.out)⟩⟩
    case round =>
      clear H'
      try clear c2
      try clear c2b0
      try clear c2b1
      try clear p2
      obtain ⟨x13_1, rfl, HA, HK1, HB⟩ := hrel
      cases gk with
      | zero => exact absurd HA.out (by simp [crossbarref08_Check.l0])
      | succ k1 =>
        have H := HA.out
        clear HA
        simp only [crossbarref08_Check.l0] at H
        by_cases c3 : x13_1 < (l0.length : Int)
        · rw [if_pos c3] at H
          have c3b0 : decide (x13_1 < (l0.length : Int)) = true := decide_eq_true c3
          clear c3
          by_cases c4 : 0 ≤ x13_1
          · rw [if_pos c4] at H
            have c4b0 : decide (0 ≤ x13_1) = true := decide_eq_true c4
            clear c4
            by_cases c5 : x13_1 < (l0.length : Int)
            · rw [if_pos c5] at H
              have c5b0 : decide (x13_1 < (l0.length : Int)) = true := decide_eq_true c5
              clear c5
              have HC6 := Aside0.mk H
              clear H
              have p228 : 0 ≤ (x13_1 : Int) := of_decide_eq_true (by first | (with_reducible assumption) | assumption)
              have q228 : x13_1 < (l0.length : Int) := of_decide_eq_true (by first | (with_reducible assumption) | assumption)
              obtain ⟨ad228, e228, hx228_0, hx228_1, hx228_2, hx228_3⟩ := at_T61 HR0.out x13_1 p228 q228
              cases e228
              replace hx228_0 := (HB.out.cell (World.block_lt_of_cell? w _ hx228_0)).trans hx228_0
              replace hx228_1 := (HB.out.cell (World.block_lt_of_cell? w _ hx228_1)).trans hx228_1
              replace hx228_2 := (HB.out.cell (World.block_lt_of_cell? w _ hx228_2)).trans hx228_2
              replace hx228_3 := (HB.out.cell (World.block_lt_of_cell? w _ hx228_3)).trans hx228_3
              replace p228 := eq_true p228
              replace q228 := eq_true q228
              go_upto_region 7 with (first | ((with_reducible refine gate_dst (N := 4) rfl ?_); refine box_event ?hg (N := 4) ?hd (cs := #[.string (⟨#[]⟩ : ByteArray), .int .i64 0, .int .i64 0, .int .i64 0]) (t := 61) ?hr ?_; (case hd => rfl); (case hg => rfl); (case hr => first | (go_simp; done) | (go_simp; rfl)); intro gb229 hg w7 hbox hb; have n0_ := Aside0.mk (below_step (by repeat (first | (with_reducible first | exact HB.out | apply below_alloc | apply pw_below_drewN | apply below_drew1) | exact HB.out)) hb); have n1_ := Aside0.mk (hbox); have n2_ := Aside0.mk ((by rw [hg]; exact (below_size (by repeat (first | (with_reducible first | exact HB.out | apply below_alloc | apply pw_below_drewN | apply below_drew1) | exact HB.out))) : w.heap.size ≤ gb229)); have n3_ := Aside0.mk ((by rw [hg]; exact (below_size (by repeat (first | (with_reducible first | exact HB.out | apply below_alloc | apply pw_below_drewN | apply below_drew1) | exact HB.out))) : w.heap.size ≤ gb229)); clear HB; have HB := n0_; have BK229 := n1_; have GW229 := n2_; have GE229 := n3_; clear n0_ n1_ n2_ n3_; clear hb hbox hg; have hcz8_0 : w7.cell? ⟨gb229, 0, none⟩ = some (.string (⟨#[]⟩ : ByteArray)) := (blk_cell BK229.out 0).trans rfl; have hcz8_1 : w7.cell? ⟨gb229, 1, none⟩ = some (.int .i64 0) := (blk_cell BK229.out 1).trans rfl; have hcz8_2 : w7.cell? ⟨gb229, 2, none⟩ = some (.int .i64 0) := (blk_cell BK229.out 2).trans rfl; have hcz8_3 : w7.cell? ⟨gb229, 3, none⟩ = some (.int .i64 0) := (blk_cell BK229.out 3).trans rfl; have hfz8_0 := blk_frozen BK229.out 0; have hfz8_1 := blk_frozen BK229.out 1; have hfz8_2 := blk_frozen BK229.out 2; have hfz8_3 := blk_frozen BK229.out 3))
              (try simp only [Act.put, List.setIfInBounds_toArray, List.set_cons_zero, List.set_cons_succ])
              go_cut [60] (fun v60 wc => ∃ (kq : Nat) (x60_5 : Bool), v60 = .bool x60_5 ∧ Aside0 (crossbarref08_Check.j1 kq l0 x13_1 l0 (l0.length : Int) x13_1 x60_5 ((rd_T61 l0 x13_1).f0) ((rd_T61 l0 x13_1).f1) ((rd_T61 l0 x13_1).f2) ((rd_T61 l0 x13_1).f3) = some r) ∧ Aside0 (kq ≤ k1) ∧ Aside0 (wc.heap[gb229]? = some (.cells #[.string ((rd_T61 l0 x13_1).f0), .int .i64 ((rd_T61 l0 x13_1).f1), .int .i64 ((rd_T61 l0 x13_1).f2), .int .i64 ((rd_T61 l0 x13_1).f3)] 61 (0, 0))) ∧ Aside0 (Below w.heap.size w wc))
              case first =>
                have H := HC6.out
                clear HC6
                by_cases c9 : (((rd_T61 l0 x13_1).f0).size : Int) < 1
                · rw [if_pos c9] at H
                  have c9b0 : decide ((((rd_T61 l0 x13_1).f0).size : Int) < 1) = true := decide_eq_true c9
                  have c9b1 : decide (((rd_T61 l0 x13_1).f0).size < 1) = true := decide_eq_true (by omega)
                  clear c9
                  (first | rw [c9b0] | (simp only [i64_w, i32_w]; rw [c9b0]) | skip)
                  have H' := Aside0.mk H
                  clear H
                  go_wp2
                  go_meet
                  case rel => exact ⟨_, (true), (by first | rfl | (simp; done) | (simp [*]; done)), H', ⟨by have := HK1.out; first | omega | exact Nat.le_refl _⟩, ⟨by (with_reducible repeat (first | refine blk_drewN ?_ _ | refine blk_drew ?_ | refine blk_alloc ?_ _)); refine blk_put (cs := #[.string ((rd_T61 l0 x13_1).f0), .int .i64 ((rd_T61 l0 x13_1).f1), .int .i64 ((rd_T61 l0 x13_1).f2), .int .i64 0]) ?_ 3 _ rfl; (with_reducible repeat (first | refine blk_drewN ?_ _ | refine blk_drew ?_ | refine blk_alloc ?_ _)); refine blk_put (cs := #[.string ((rd_T61 l0 x13_1).f0), .int .i64 ((rd_T61 l0 x13_1).f1), .int .i64 0, .int .i64 0]) ?_ 2 _ rfl; (with_reducible repeat (first | refine blk_drewN ?_ _ | refine blk_drew ?_ | refine blk_alloc ?_ _)); refine blk_put (cs := #[.string ((rd_T61 l0 x13_1).f0), .int .i64 0, .int .i64 0, .int .i64 0]) ?_ 1 _ rfl; (with_reducible repeat (first | refine blk_drewN ?_ _ | refine blk_drew ?_ | refine blk_alloc ?_ _)); refine blk_put (cs := #[.string (⟨#[]⟩ : ByteArray), .int .i64 0, .int .i64 0, .int .i64 0]) ?_ 0 _ rfl; (with_reducible repeat (first | refine blk_drewN ?_ _ | refine blk_drew ?_ | refine blk_alloc ?_ _)); exact BK229.out⟩, ⟨by repeat (first | (with_reducible first | exact HB.out | apply below_alloc | apply pw_below_drewN | apply below_drew1 | refine below_set ?_ GE229.out) | exact HB.out)⟩⟩
                · rw [if_neg c9] at H
                  have c9b0 : decide ((((rd_T61 l0 x13_1).f0).size : Int) < 1) = false := decide_eq_false c9
                  have c9b1 : decide (((rd_T61 l0 x13_1).f0).size < 1) = false := decide_eq_false (by omega)
                  clear c9
                  (first | rw [c9b0] | (simp only [i64_w, i32_w]; rw [c9b0]) | skip)
                  by_cases c10 : (((rd_T61 l0 x13_1).f0).size : Int) > 15
                  · rw [if_pos c10] at H
                    have c10b0 : decide (15 < (((rd_T61 l0 x13_1).f0).size : Int)) = true := decide_eq_true c10
                    have c10b1 : decide (15 < ((rd_T61 l0 x13_1).f0).size) = true := decide_eq_true (by omega)
                    clear c10
                    have H' := Aside0.mk H
                    clear H
                    go_wp2
                    go_meet
                    case rel => exact ⟨_, (true), (by first | rfl | (simp; done) | (simp [*]; done)), H', ⟨by have := HK1.out; first | omega | exact Nat.le_refl _⟩, ⟨by (with_reducible repeat (first | refine blk_drewN ?_ _ | refine blk_drew ?_ | refine blk_alloc ?_ _)); refine blk_put (cs := #[.string ((rd_T61 l0 x13_1).f0), .int .i64 ((rd_T61 l0 x13_1).f1), .int .i64 ((rd_T61 l0 x13_1).f2), .int .i64 0]) ?_ 3 _ rfl; (with_reducible repeat (first | refine blk_drewN ?_ _ | refine blk_drew ?_ | refine blk_alloc ?_ _)); refine blk_put (cs := #[.string ((rd_T61 l0 x13_1).f0), .int .i64 ((rd_T61 l0 x13_1).f1), .int .i64 0, .int .i64 0]) ?_ 2 _ rfl; (with_reducible repeat (first | refine blk_drewN ?_ _ | refine blk_drew ?_ | refine blk_alloc ?_ _)); refine blk_put (cs := #[.string ((rd_T61 l0 x13_1).f0), .int .i64 0, .int .i64 0, .int .i64 0]) ?_ 1 _ rfl; (with_reducible repeat (first | refine blk_drewN ?_ _ | refine blk_drew ?_ | refine blk_alloc ?_ _)); refine blk_put (cs := #[.string (⟨#[]⟩ : ByteArray), .int .i64 0, .int .i64 0, .int .i64 0]) ?_ 0 _ rfl; (with_reducible repeat (first | refine blk_drewN ?_ _ | refine blk_drew ?_ | refine blk_alloc ?_ _)); exact BK229.out⟩, ⟨by repeat (first | (with_reducible first | exact HB.out | apply below_alloc | apply pw_below_drewN | apply below_drew1 | refine below_set ?_ GE229.out) | exact HB.out)⟩⟩
                  · rw [if_neg c10] at H
                    have c10b0 : decide (15 < (((rd_T61 l0 x13_1).f0).size : Int)) = false := decide_eq_false c10
                    have c10b1 : decide (15 < ((rd_T61 l0 x13_1).f0).size) = false := decide_eq_false (by omega)
                    clear c10
                    replace H := Option.bind_eq_some_iff.mp H
                    obtain ⟨t230, A110, H⟩ := H
                    replace H : (if t230 = true then (if ((rd_T61 l0 x13_1).f3) < 1 then (crossbarref08_Check.j1 k1 l0 x13_1 l0 (l0.length : Int) x13_1 true ((rd_T61 l0 x13_1).f0) ((rd_T61 l0 x13_1).f1) ((rd_T61 l0 x13_1).f2) ((rd_T61 l0 x13_1).f3)) else (if ((rd_T61 l0 x13_1).f3) > 4 then (crossbarref08_Check.j1 k1 l0 x13_1 l0 (l0.length : Int) x13_1 true ((rd_T61 l0 x13_1).f0) ((rd_T61 l0 x13_1).f1) ((rd_T61 l0 x13_1).f2) ((rd_T61 l0 x13_1).f3)) else (if ((rd_T61 l0 x13_1).f1) < (((rd_T61 l0 x13_1).f0).size : Int) then (crossbarref08_Check.j1 k1 l0 x13_1 l0 (l0.length : Int) x13_1 true ((rd_T61 l0 x13_1).f0) ((rd_T61 l0 x13_1).f1) ((rd_T61 l0 x13_1).f2) ((rd_T61 l0 x13_1).f3)) else (if ((rd_T61 l0 x13_1).f2) < ((rd_T61 l0 x13_1).f1) then (crossbarref08_Check.j1 k1 l0 x13_1 l0 (l0.length : Int) x13_1 true ((rd_T61 l0 x13_1).f0) ((rd_T61 l0 x13_1).f1) ((rd_T61 l0 x13_1).f2) ((rd_T61 l0 x13_1).f3)) else (crossbarref08_Check.j1 k1 l0 x13_1 l0 (l0.length : Int) x13_1 (decide (((rd_T61 l0 x13_1).f2) > 20)) ((rd_T61 l0 x13_1).f0) ((rd_T61 l0 x13_1).f1) ((rd_T61 l0 x13_1).f2) ((rd_T61 l0 x13_1).f3)))))) else (crossbarref08_Check.j1 k1 l0 x13_1 l0 (l0.length : Int) x13_1 true ((rd_T61 l0 x13_1).f0) ((rd_T61 l0 x13_1).f1) ((rd_T61 l0 x13_1).f2) ((rd_T61 l0 x13_1).f3))) = some r := H
                    have A11 := Aside0.mk A110
                    clear A110
                    by_cases c12 : t230 = true
                    · subst c12
                      have H1 : (if ((rd_T61 l0 x13_1).f3) < 1 then (crossbarref08_Check.j1 k1 l0 x13_1 l0 (l0.length : Int) x13_1 true ((rd_T61 l0 x13_1).f0) ((rd_T61 l0 x13_1).f1) ((rd_T61 l0 x13_1).f2) ((rd_T61 l0 x13_1).f3)) else (if ((rd_T61 l0 x13_1).f3) > 4 then (crossbarref08_Check.j1 k1 l0 x13_1 l0 (l0.length : Int) x13_1 true ((rd_T61 l0 x13_1).f0) ((rd_T61 l0 x13_1).f1) ((rd_T61 l0 x13_1).f2) ((rd_T61 l0 x13_1).f3)) else (if ((rd_T61 l0 x13_1).f1) < (((rd_T61 l0 x13_1).f0).size : Int) then (crossbarref08_Check.j1 k1 l0 x13_1 l0 (l0.length : Int) x13_1 true ((rd_T61 l0 x13_1).f0) ((rd_T61 l0 x13_1).f1) ((rd_T61 l0 x13_1).f2) ((rd_T61 l0 x13_1).f3)) else (if ((rd_T61 l0 x13_1).f2) < ((rd_T61 l0 x13_1).f1) then (crossbarref08_Check.j1 k1 l0 x13_1 l0 (l0.length : Int) x13_1 true ((rd_T61 l0 x13_1).f0) ((rd_T61 l0 x13_1).f1) ((rd_T61 l0 x13_1).f2) ((rd_T61 l0 x13_1).f3)) else (crossbarref08_Check.j1 k1 l0 x13_1 l0 (l0.length : Int) x13_1 (decide (((rd_T61 l0 x13_1).f2) > 20)) ((rd_T61 l0 x13_1).f0) ((rd_T61 l0 x13_1).f1) ((rd_T61 l0 x13_1).f2) ((rd_T61 l0 x13_1).f3)))))) = some r := by rw [if_pos rfl] at H; exact H
                      clear H
                      have H := H1
                      clear H1
                      by_cases c13 : ((rd_T61 l0 x13_1).f3) < 1
                      · rw [if_pos c13] at H
                        have c13b0 : decide (((rd_T61 l0 x13_1).f3) < 1) = true := decide_eq_true c13
                        clear c13
                        have H' := Aside0.mk H
                        clear H
                        have hcz14_0 : w7.cell? ⟨gb229, 0, none⟩ = some (.string (⟨#[]⟩ : ByteArray)) := (blk_cell BK229.out 0).trans rfl
                        have hcz14_1 : w7.cell? ⟨gb229, 1, none⟩ = some (.int .i64 0) := (blk_cell BK229.out 1).trans rfl
                        have hcz14_2 : w7.cell? ⟨gb229, 2, none⟩ = some (.int .i64 0) := (blk_cell BK229.out 2).trans rfl
                        have hcz14_3 : w7.cell? ⟨gb229, 3, none⟩ = some (.int .i64 0) := (blk_cell BK229.out 3).trans rfl
                        have hfz14_0 := blk_frozen BK229.out 0
                        have hfz14_1 := blk_frozen BK229.out 1
                        have hfz14_2 := blk_frozen BK229.out 2
                        have hfz14_3 := blk_frozen BK229.out 3
                        go_wp2_with (first | (go_at_call 63; (with_reducible refine (crossbarref08_Digits.calls k1 ((rd_T61 l0 x13_1).f0) true _ A11.out).mono ?_); rintro e w' ⟨rfl, ⟨nd, rfl⟩⟩))
                        go_meet
                        case rel => exact ⟨_, (true), (by first | rfl | (simp; done) | (simp [*]; done)), H', ⟨by have := HK1.out; first | omega | exact Nat.le_refl _⟩, ⟨by (with_reducible repeat (first | refine blk_drewN ?_ _ | refine blk_drew ?_ | refine blk_alloc ?_ _)); refine blk_put (cs := #[.string ((rd_T61 l0 x13_1).f0), .int .i64 ((rd_T61 l0 x13_1).f1), .int .i64 ((rd_T61 l0 x13_1).f2), .int .i64 0]) ?_ 3 _ rfl; (with_reducible repeat (first | refine blk_drewN ?_ _ | refine blk_drew ?_ | refine blk_alloc ?_ _)); refine blk_put (cs := #[.string ((rd_T61 l0 x13_1).f0), .int .i64 ((rd_T61 l0 x13_1).f1), .int .i64 0, .int .i64 0]) ?_ 2 _ rfl; (with_reducible repeat (first | refine blk_drewN ?_ _ | refine blk_drew ?_ | refine blk_alloc ?_ _)); refine blk_put (cs := #[.string ((rd_T61 l0 x13_1).f0), .int .i64 0, .int .i64 0, .int .i64 0]) ?_ 1 _ rfl; (with_reducible repeat (first | refine blk_drewN ?_ _ | refine blk_drew ?_ | refine blk_alloc ?_ _)); refine blk_put (cs := #[.string (⟨#[]⟩ : ByteArray), .int .i64 0, .int .i64 0, .int .i64 0]) ?_ 0 _ rfl; (with_reducible repeat (first | refine blk_drewN ?_ _ | refine blk_drew ?_ | refine blk_alloc ?_ _)); exact BK229.out⟩, ⟨by repeat (first | (with_reducible first | exact HB.out | apply below_alloc | apply pw_below_drewN | apply below_drew1 | refine below_set ?_ GE229.out) | exact HB.out)⟩⟩
                      · rw [if_neg c13] at H
                        have c13b0 : decide (((rd_T61 l0 x13_1).f3) < 1) = false := decide_eq_false c13
                        clear c13
                        by_cases c15 : ((rd_T61 l0 x13_1).f3) > 4
                        · rw [if_pos c15] at H
                          have c15b0 : decide (4 < ((rd_T61 l0 x13_1).f3)) = true := decide_eq_true c15
                          clear c15
                          have H' := Aside0.mk H
                          clear H
                          have hcz16_0 : w7.cell? ⟨gb229, 0, none⟩ = some (.string (⟨#[]⟩ : ByteArray)) := (blk_cell BK229.out 0).trans rfl
                          have hcz16_1 : w7.cell? ⟨gb229, 1, none⟩ = some (.int .i64 0) := (blk_cell BK229.out 1).trans rfl
                          have hcz16_2 : w7.cell? ⟨gb229, 2, none⟩ = some (.int .i64 0) := (blk_cell BK229.out 2).trans rfl
                          have hcz16_3 : w7.cell? ⟨gb229, 3, none⟩ = some (.int .i64 0) := (blk_cell BK229.out 3).trans rfl
                          have hfz16_0 := blk_frozen BK229.out 0
                          have hfz16_1 := blk_frozen BK229.out 1
                          have hfz16_2 := blk_frozen BK229.out 2
                          have hfz16_3 := blk_frozen BK229.out 3
                          go_wp2_with (first | (go_at_call 63; (with_reducible refine (crossbarref08_Digits.calls k1 ((rd_T61 l0 x13_1).f0) true _ A11.out).mono ?_); rintro e w' ⟨rfl, ⟨nd, rfl⟩⟩))
                          go_meet
                          case rel => exact ⟨_, (true), (by first | rfl | (simp; done) | (simp [*]; done)), H', ⟨by have := HK1.out; first | omega | exact Nat.le_refl _⟩, ⟨by (with_reducible repeat (first | refine blk_drewN ?_ _ | refine blk_drew ?_ | refine blk_alloc ?_ _)); refine blk_put (cs := #[.string ((rd_T61 l0 x13_1).f0), .int .i64 ((rd_T61 l0 x13_1).f1), .int .i64 ((rd_T61 l0 x13_1).f2), .int .i64 0]) ?_ 3 _ rfl; (with_reducible repeat (first | refine blk_drewN ?_ _ | refine blk_drew ?_ | refine blk_alloc ?_ _)); refine blk_put (cs := #[.string ((rd_T61 l0 x13_1).f0), .int .i64 ((rd_T61 l0 x13_1).f1), .int .i64 0, .int .i64 0]) ?_ 2 _ rfl; (with_reducible repeat (first | refine blk_drewN ?_ _ | refine blk_drew ?_ | refine blk_alloc ?_ _)); refine blk_put (cs := #[.string ((rd_T61 l0 x13_1).f0), .int .i64 0, .int .i64 0, .int .i64 0]) ?_ 1 _ rfl; (with_reducible repeat (first | refine blk_drewN ?_ _ | refine blk_drew ?_ | refine blk_alloc ?_ _)); refine blk_put (cs := #[.string (⟨#[]⟩ : ByteArray), .int .i64 0, .int .i64 0, .int .i64 0]) ?_ 0 _ rfl; (with_reducible repeat (first | refine blk_drewN ?_ _ | refine blk_drew ?_ | refine blk_alloc ?_ _)); exact BK229.out⟩, ⟨by repeat (first | (with_reducible first | exact HB.out | apply below_alloc | apply pw_below_drewN | apply below_drew1 | refine below_set ?_ GE229.out) | exact HB.out)⟩⟩
                        · rw [if_neg c15] at H
                          have c15b0 : decide (4 < ((rd_T61 l0 x13_1).f3)) = false := decide_eq_false c15
                          clear c15
                          by_cases c17 : ((rd_T61 l0 x13_1).f1) < (((rd_T61 l0 x13_1).f0).size : Int)
                          · rw [if_pos c17] at H
                            have c17b0 : decide (((rd_T61 l0 x13_1).f1) < (((rd_T61 l0 x13_1).f0).size : Int)) = true := decide_eq_true c17
                            clear c17
                            have H' := Aside0.mk H
                            clear H
                            have hcz18_0 : w7.cell? ⟨gb229, 0, none⟩ = some (.string (⟨#[]⟩ : ByteArray)) := (blk_cell BK229.out 0).trans rfl
                            have hcz18_1 : w7.cell? ⟨gb229, 1, none⟩ = some (.int .i64 0) := (blk_cell BK229.out 1).trans rfl
                            have hcz18_2 : w7.cell? ⟨gb229, 2, none⟩ = some (.int .i64 0) := (blk_cell BK229.out 2).trans rfl
                            have hcz18_3 : w7.cell? ⟨gb229, 3, none⟩ = some (.int .i64 0) := (blk_cell BK229.out 3).trans rfl
                            have hfz18_0 := blk_frozen BK229.out 0
                            have hfz18_1 := blk_frozen BK229.out 1
                            have hfz18_2 := blk_frozen BK229.out 2
                            have hfz18_3 := blk_frozen BK229.out 3
                            go_wp2_with (first | (go_at_call 63; (with_reducible refine (crossbarref08_Digits.calls k1 ((rd_T61 l0 x13_1).f0) true _ A11.out).mono ?_); rintro e w' ⟨rfl, ⟨nd, rfl⟩⟩))
                            go_meet
                            case rel => exact ⟨_, (true), (by first | rfl | (simp; done) | (simp [*]; done)), H', ⟨by have := HK1.out; first | omega | exact Nat.le_refl _⟩, ⟨by (with_reducible repeat (first | refine blk_drewN ?_ _ | refine blk_drew ?_ | refine blk_alloc ?_ _)); refine blk_put (cs := #[.string ((rd_T61 l0 x13_1).f0), .int .i64 ((rd_T61 l0 x13_1).f1), .int .i64 ((rd_T61 l0 x13_1).f2), .int .i64 0]) ?_ 3 _ rfl; (with_reducible repeat (first | refine blk_drewN ?_ _ | refine blk_drew ?_ | refine blk_alloc ?_ _)); refine blk_put (cs := #[.string ((rd_T61 l0 x13_1).f0), .int .i64 ((rd_T61 l0 x13_1).f1), .int .i64 0, .int .i64 0]) ?_ 2 _ rfl; (with_reducible repeat (first | refine blk_drewN ?_ _ | refine blk_drew ?_ | refine blk_alloc ?_ _)); refine blk_put (cs := #[.string ((rd_T61 l0 x13_1).f0), .int .i64 0, .int .i64 0, .int .i64 0]) ?_ 1 _ rfl; (with_reducible repeat (first | refine blk_drewN ?_ _ | refine blk_drew ?_ | refine blk_alloc ?_ _)); refine blk_put (cs := #[.string (⟨#[]⟩ : ByteArray), .int .i64 0, .int .i64 0, .int .i64 0]) ?_ 0 _ rfl; (with_reducible repeat (first | refine blk_drewN ?_ _ | refine blk_drew ?_ | refine blk_alloc ?_ _)); exact BK229.out⟩, ⟨by repeat (first | (with_reducible first | exact HB.out | apply below_alloc | apply pw_below_drewN | apply below_drew1 | refine below_set ?_ GE229.out) | exact HB.out)⟩⟩
                          · rw [if_neg c17] at H
                            have c17b0 : decide (((rd_T61 l0 x13_1).f1) < (((rd_T61 l0 x13_1).f0).size : Int)) = false := decide_eq_false c17
                            clear c17
                            by_cases c19 : ((rd_T61 l0 x13_1).f2) < ((rd_T61 l0 x13_1).f1)
                            · rw [if_pos c19] at H
                              have c19b0 : decide (((rd_T61 l0 x13_1).f2) < ((rd_T61 l0 x13_1).f1)) = true := decide_eq_true c19
                              clear c19
                              have H' := Aside0.mk H
                              clear H
                              have hcz20_0 : w7.cell? ⟨gb229, 0, none⟩ = some (.string (⟨#[]⟩ : ByteArray)) := (blk_cell BK229.out 0).trans rfl
                              have hcz20_1 : w7.cell? ⟨gb229, 1, none⟩ = some (.int .i64 0) := (blk_cell BK229.out 1).trans rfl
                              have hcz20_2 : w7.cell? ⟨gb229, 2, none⟩ = some (.int .i64 0) := (blk_cell BK229.out 2).trans rfl
                              have hcz20_3 : w7.cell? ⟨gb229, 3, none⟩ = some (.int .i64 0) := (blk_cell BK229.out 3).trans rfl
                              have hfz20_0 := blk_frozen BK229.out 0
                              have hfz20_1 := blk_frozen BK229.out 1
                              have hfz20_2 := blk_frozen BK229.out 2
                              have hfz20_3 := blk_frozen BK229.out 3
                              go_wp2_with (first | (go_at_call 63; (with_reducible refine (crossbarref08_Digits.calls k1 ((rd_T61 l0 x13_1).f0) true _ A11.out).mono ?_); rintro e w' ⟨rfl, ⟨nd, rfl⟩⟩))
                              go_meet
                              case rel => exact ⟨_, (true), (by first | rfl | (simp; done) | (simp [*]; done)), H', ⟨by have := HK1.out; first | omega | exact Nat.le_refl _⟩, ⟨by (with_reducible repeat (first | refine blk_drewN ?_ _ | refine blk_drew ?_ | refine blk_alloc ?_ _)); refine blk_put (cs := #[.string ((rd_T61 l0 x13_1).f0), .int .i64 ((rd_T61 l0 x13_1).f1), .int .i64 ((rd_T61 l0 x13_1).f2), .int .i64 0]) ?_ 3 _ rfl; (with_reducible repeat (first | refine blk_drewN ?_ _ | refine blk_drew ?_ | refine blk_alloc ?_ _)); refine blk_put (cs := #[.string ((rd_T61 l0 x13_1).f0), .int .i64 ((rd_T61 l0 x13_1).f1), .int .i64 0, .int .i64 0]) ?_ 2 _ rfl; (with_reducible repeat (first | refine blk_drewN ?_ _ | refine blk_drew ?_ | refine blk_alloc ?_ _)); refine blk_put (cs := #[.string ((rd_T61 l0 x13_1).f0), .int .i64 0, .int .i64 0, .int .i64 0]) ?_ 1 _ rfl; (with_reducible repeat (first | refine blk_drewN ?_ _ | refine blk_drew ?_ | refine blk_alloc ?_ _)); refine blk_put (cs := #[.string (⟨#[]⟩ : ByteArray), .int .i64 0, .int .i64 0, .int .i64 0]) ?_ 0 _ rfl; (with_reducible repeat (first | refine blk_drewN ?_ _ | refine blk_drew ?_ | refine blk_alloc ?_ _)); exact BK229.out⟩, ⟨by repeat (first | (with_reducible first | exact HB.out | apply below_alloc | apply pw_below_drewN | apply below_drew1 | refine below_set ?_ GE229.out) | exact HB.out)⟩⟩
                            · rw [if_neg c19] at H
                              have c19b0 : decide (((rd_T61 l0 x13_1).f2) < ((rd_T61 l0 x13_1).f1)) = false := decide_eq_false c19
                              clear c19
                              have H' := Aside0.mk H
                              clear H
                              have hcz21_0 : w7.cell? ⟨gb229, 0, none⟩ = some (.string (⟨#[]⟩ : ByteArray)) := (blk_cell BK229.out 0).trans rfl
                              have hcz21_1 : w7.cell? ⟨gb229, 1, none⟩ = some (.int .i64 0) := (blk_cell BK229.out 1).trans rfl
                              have hcz21_2 : w7.cell? ⟨gb229, 2, none⟩ = some (.int .i64 0) := (blk_cell BK229.out 2).trans rfl
                              have hcz21_3 : w7.cell? ⟨gb229, 3, none⟩ = some (.int .i64 0) := (blk_cell BK229.out 3).trans rfl
                              have hfz21_0 := blk_frozen BK229.out 0
                              have hfz21_1 := blk_frozen BK229.out 1
                              have hfz21_2 := blk_frozen BK229.out 2
                              have hfz21_3 := blk_frozen BK229.out 3
                              go_wp2_with (first | (go_at_call 63; (with_reducible refine (crossbarref08_Digits.calls k1 ((rd_T61 l0 x13_1).f0) true _ A11.out).mono ?_); rintro e w' ⟨rfl, ⟨nd, rfl⟩⟩))
                              go_meet
                              case rel => exact ⟨_, (decide (((rd_T61 l0 x13_1).f2) > 20)), (by first | rfl | (simp; done) | (simp [*]; done)), H', ⟨by have := HK1.out; first | omega | exact Nat.le_refl _⟩, ⟨by (with_reducible repeat (first | refine blk_drewN ?_ _ | refine blk_drew ?_ | refine blk_alloc ?_ _)); refine blk_put (cs := #[.string ((rd_T61 l0 x13_1).f0), .int .i64 ((rd_T61 l0 x13_1).f1), .int .i64 ((rd_T61 l0 x13_1).f2), .int .i64 0]) ?_ 3 _ rfl; (with_reducible repeat (first | refine blk_drewN ?_ _ | refine blk_drew ?_ | refine blk_alloc ?_ _)); refine blk_put (cs := #[.string ((rd_T61 l0 x13_1).f0), .int .i64 ((rd_T61 l0 x13_1).f1), .int .i64 0, .int .i64 0]) ?_ 2 _ rfl; (with_reducible repeat (first | refine blk_drewN ?_ _ | refine blk_drew ?_ | refine blk_alloc ?_ _)); refine blk_put (cs := #[.string ((rd_T61 l0 x13_1).f0), .int .i64 0, .int .i64 0, .int .i64 0]) ?_ 1 _ rfl; (with_reducible repeat (first | refine blk_drewN ?_ _ | refine blk_drew ?_ | refine blk_alloc ?_ _)); refine blk_put (cs := #[.string (⟨#[]⟩ : ByteArray), .int .i64 0, .int .i64 0, .int .i64 0]) ?_ 0 _ rfl; (with_reducible repeat (first | refine blk_drewN ?_ _ | refine blk_drew ?_ | refine blk_alloc ?_ _)); exact BK229.out⟩, ⟨by repeat (first | (with_reducible first | exact HB.out | apply below_alloc | apply pw_below_drewN | apply below_drew1 | refine below_set ?_ GE229.out) | exact HB.out)⟩⟩
                    · replace c12 := Bool.eq_false_iff.mpr c12
                      subst c12
                      have H1 : (crossbarref08_Check.j1 k1 l0 x13_1 l0 (l0.length : Int) x13_1 true ((rd_T61 l0 x13_1).f0) ((rd_T61 l0 x13_1).f1) ((rd_T61 l0 x13_1).f2) ((rd_T61 l0 x13_1).f3)) = some r := by rw [if_neg (show ¬ (false = true) by decide)] at H; exact H
                      clear H
                      have H := H1
                      clear H1
                      have H' := Aside0.mk H
                      clear H
                      have hcz22_0 : w7.cell? ⟨gb229, 0, none⟩ = some (.string (⟨#[]⟩ : ByteArray)) := (blk_cell BK229.out 0).trans rfl
                      have hcz22_1 : w7.cell? ⟨gb229, 1, none⟩ = some (.int .i64 0) := (blk_cell BK229.out 1).trans rfl
                      have hcz22_2 : w7.cell? ⟨gb229, 2, none⟩ = some (.int .i64 0) := (blk_cell BK229.out 2).trans rfl
                      have hcz22_3 : w7.cell? ⟨gb229, 3, none⟩ = some (.int .i64 0) := (blk_cell BK229.out 3).trans rfl
                      have hfz22_0 := blk_frozen BK229.out 0
                      have hfz22_1 := blk_frozen BK229.out 1
                      have hfz22_2 := blk_frozen BK229.out 2
                      have hfz22_3 := blk_frozen BK229.out 3
                      go_wp2_with (first | (go_at_call 63; (with_reducible refine (crossbarref08_Digits.calls k1 ((rd_T61 l0 x13_1).f0) false _ A11.out).mono ?_); rintro e w' ⟨rfl, ⟨nd, rfl⟩⟩))
                      go_meet
                      case rel => exact ⟨_, (true), (by first | rfl | (simp; done) | (simp [*]; done)), H', ⟨by have := HK1.out; first | omega | exact Nat.le_refl _⟩, ⟨by (with_reducible repeat (first | refine blk_drewN ?_ _ | refine blk_drew ?_ | refine blk_alloc ?_ _)); refine blk_put (cs := #[.string ((rd_T61 l0 x13_1).f0), .int .i64 ((rd_T61 l0 x13_1).f1), .int .i64 ((rd_T61 l0 x13_1).f2), .int .i64 0]) ?_ 3 _ rfl; (with_reducible repeat (first | refine blk_drewN ?_ _ | refine blk_drew ?_ | refine blk_alloc ?_ _)); refine blk_put (cs := #[.string ((rd_T61 l0 x13_1).f0), .int .i64 ((rd_T61 l0 x13_1).f1), .int .i64 0, .int .i64 0]) ?_ 2 _ rfl; (with_reducible repeat (first | refine blk_drewN ?_ _ | refine blk_drew ?_ | refine blk_alloc ?_ _)); refine blk_put (cs := #[.string ((rd_T61 l0 x13_1).f0), .int .i64 0, .int .i64 0, .int .i64 0]) ?_ 1 _ rfl; (with_reducible repeat (first | refine blk_drewN ?_ _ | refine blk_drew ?_ | refine blk_alloc ?_ _)); refine blk_put (cs := #[.string (⟨#[]⟩ : ByteArray), .int .i64 0, .int .i64 0, .int .i64 0]) ?_ 0 _ rfl; (with_reducible repeat (first | refine blk_drewN ?_ _ | refine blk_drew ?_ | refine blk_alloc ?_ _)); exact BK229.out⟩, ⟨by repeat (first | (with_reducible first | exact HB.out | apply below_alloc | apply pw_below_drewN | apply below_drew1 | refine below_set ?_ GE229.out) | exact HB.out)⟩⟩
              case rest =>
                clear HC6
                try clear c1
                try clear c2
                try clear c2b0
                try clear c2b1
                try clear p2
                try clear q2
                try clear hx2
                try clear c3
                try clear c3b0
                try clear c4
                try clear c4b0
                try clear c5
                try clear c5b0
                try clear c9
                try clear c9b0
                try clear c9b1
                try clear c10
                try clear c10b0
                try clear c10b1
                try clear c12
                try clear c13
                try clear c13b0
                try clear c15
                try clear c15b0
                try clear c17
                try clear c17b0
                try clear c19
                try clear c19b0
                try clear p22
                try clear q22
                try clear hx22
                try clear hcz14_0
                try clear hcz14_1
                try clear hcz14_2
                try clear hcz14_3
                try clear hcz16_0
                try clear hcz16_1
                try clear hcz16_2
                try clear hcz16_3
                try clear hcz18_0
                try clear hcz18_1
                try clear hcz18_2
                try clear hcz18_3
                try clear hcz20_0
                try clear hcz20_1
                try clear hcz20_2
                try clear hcz20_3
                try clear hcz21_0
                try clear hcz21_1
                try clear hcz21_2
                try clear hcz21_3
                try clear hcz22_0
                try clear hcz22_1
                try clear hcz22_2
                try clear hcz22_3
                try clear hcz8_0
                try clear hcz8_1
                try clear hcz8_2
                try clear hcz8_3
                try clear hfz14_0
                try clear hfz14_1
                try clear hfz14_2
                try clear hfz14_3
                try clear hfz16_0
                try clear hfz16_1
                try clear hfz16_2
                try clear hfz16_3
                try clear hfz18_0
                try clear hfz18_1
                try clear hfz18_2
                try clear hfz18_3
                try clear hfz20_0
                try clear hfz20_1
                try clear hfz20_2
                try clear hfz20_3
                try clear hfz21_0
                try clear hfz21_1
                try clear hfz21_2
                try clear hfz21_3
                try clear hfz22_0
                try clear hfz22_1
                try clear hfz22_2
                try clear hfz22_3
                try clear hfz8_0
                try clear hfz8_1
                try clear hfz8_2
                try clear hfz8_3
                try clear hx228_0
                try clear hx228_1
                try clear hx228_2
                try clear hx228_3
                try clear p2
                try clear p228
                try clear q228
                obtain ⟨kq, x60_5, rfl, HA, HJ5, BK229, HB⟩ := hcut
                cases kq with
                | zero => exact absurd HA.out (by simp [crossbarref08_Check.j1])
                | succ kj5 =>
                  have H := HA.out
                  clear HA
                  simp only [crossbarref08_Check.j1] at H
                  by_cases c23 : x60_5 = true
                  · subst c23
                    have H1 : (some 80) = some r := by rw [if_pos rfl] at H; exact H
                    clear H
                    have H := H1
                    clear H1
                    obtain rfl := Option.some.inj H
                    go_wp2
                    go_ret
                    exact ⟨by first | rfl | (simp [errW_none, errW_some] <;> rfl) | (simp [*, errW_none, errW_some] <;> rfl), by repeat (first | (with_reducible first | exact HB.out | apply below_alloc | apply pw_below_drewN | apply below_drew1 | refine below_set ?_ GE229.out) | exact HB.out)⟩
                  · replace c23 := Bool.eq_false_iff.mpr c23
                    subst c23
                    have H1 : (if 0 ≤ x13_1 then (if x13_1 ≤ (l0.length : Int) then ((some (l0.take (x13_1 : Int).toNat : List (S61))).bind fun y231 => (crossbarref08_Check.l1 kj5 l0 l0 (l0.length : Int) x13_1 y231 (y231.length : Int) 0 ((rd_T61 l0 x13_1).f0) ((rd_T61 l0 x13_1).f1) ((rd_T61 l0 x13_1).f2) ((rd_T61 l0 x13_1).f3))) else (none)) else (none)) = some r := by rw [if_neg (show ¬ (false = true) by decide)] at H; exact H
                    clear H
                    have H := H1
                    clear H1
                    by_cases c24 : 0 ≤ x13_1
                    · rw [if_pos c24] at H
                      have c24b0 := eq_true c24
                      have c24b1 : decide (0 ≤ x13_1) = true := decide_eq_true c24
                      clear c24
                      by_cases c25 : x13_1 ≤ (l0.length : Int)
                      · rw [if_pos c25] at H
                        have c25b0 := eq_true c25
                        have c25b1 : decide (x13_1 ≤ (l0.length : Int)) = true := decide_eq_true c25
                        clear c25
                        obtain ⟨y231, hy231⟩ : ∃ y_ : List (S61), y_ = (l0.take (x13_1 : Int).toNat) := ⟨_, rfl⟩
                        replace H : (crossbarref08_Check.l1 kj5 l0 l0 (l0.length : Int) x13_1 y231 (y231.length : Int) 0 ((rd_T61 l0 x13_1).f0) ((rd_T61 l0 x13_1).f1) ((rd_T61 l0 x13_1).f2) ((rd_T61 l0 x13_1).f3)) = some r := by first | (rw [hy231]; with_reducible exact H) | (have H2_ := (Option.bind_some _ _).symm.trans H; rw [hy231]; with_reducible exact H2_) | (have H2_ := (Option.bind_some _ _).symm.trans H; with_reducible exact H2_) | with_reducible exact H | (rw [hy231]; exact H) | exact H
                        have Ny231 := Aside0.mk hy231
                        clear hy231
                        have H' := Aside0.mk H
                        clear H
                        have q26 : (x13_1 : Int) ≤ ((l0.length : Int) : Int) := of_decide_eq_true (by first | (with_reducible assumption) | assumption)
                        obtain ⟨i026, hi026, _, hsz26, _⟩ := info_parts info61
                        have hroom26 : l0.length ≤ c0 := HC0.out
                        have hC26 : Kd.C k61 _ (some ad228) l0.length l0 := HR0.out
                        have hcut26 := cut_to (P := Tryd.prog) 52 61 .i64 Tryd.underlying52 hi026 (some ad228) l0.length c0 x13_1 (of_decide_eq_true (by first | (with_reducible assumption) | assumption)) q26 hroom26
                        have hr26 := Kd.C_take (m := (x13_1 : Int).toNat) hC26 (by omega)
                        have hy26 : y231.length = (x13_1 : Int).toNat := (by rw [Ny231.out, List.length_take]; omega)
                        rw [← Ny231.out] at hr26
                        rw [← hy26] at hcut26
                        have HR234 := Aside0.mk hr26
                        have HC234 := Aside0.mk (show y231.length ≤ c0 from by omega)
                        clear hr26 hC26 hroom26 hi026 hsz26
                        have KY26 := Aside0.mk hy26
                        clear hy26
                        replace q26 := eq_true q26
                        go_wp2
                        go_loopg [65] kj5 (fun kq v65 w' => ∃ (x65_3 : Int), v65 = .int .i64 x65_3 ∧ Aside0 (crossbarref08_Check.l1 kq l0 l0 (l0.length : Int) x13_1 y231 (y231.length : Int) x65_3 ((rd_T61 l0 x13_1).f0) ((rd_T61 l0 x13_1).f1) ((rd_T61 l0 x13_1).f2) ((rd_T61 l0 x13_1).f3) = some r) ∧ Aside0 (kq ≤ kj5) ∧ Aside0 (w'.heap[gb229]? = some (.cells #[.string ((rd_T61 l0 x13_1).f0), .int .i64 ((rd_T61 l0 x13_1).f1), .int .i64 ((rd_T61 l0 x13_1).f2), .int .i64 ((rd_T61 l0 x13_1).f3)] 61 (0, 0))) ∧ Aside0 (Below w.heap.size w w'))
                        case atStart => exact ⟨(0), (by first | rfl | (simp; done) | (simp [*]; done)), H', ⟨Nat.le_refl _⟩, ⟨by (with_reducible repeat (first | refine blk_drewN ?_ _ | refine blk_drew ?_ | refine blk_alloc ?_ _)); exact BK229.out⟩, ⟨by repeat (first | (with_reducible first | exact HB.out | apply below_alloc | apply pw_below_drewN | apply below_drew1 | refine below_set ?_ GE229.out) | exact HB.out)⟩⟩
                        case round =>
                          clear H'
                          try clear c1
                          try clear c2
                          try clear c2b0
                          try clear c2b1
                          try clear p2
                          try clear q2
                          try clear hx2
                          try clear c3
                          try clear c3b0
                          try clear c4
                          try clear c4b0
                          try clear c5
                          try clear c5b0
                          try clear c9
                          try clear c9b0
                          try clear c9b1
                          try clear c10
                          try clear c10b0
                          try clear c10b1
                          try clear c12
                          try clear c13
                          try clear c13b0
                          try clear c15
                          try clear c15b0
                          try clear c17
                          try clear c17b0
                          try clear c19
                          try clear c19b0
                          try clear p22
                          try clear q22
                          try clear hx22
                          try clear c23
                          try clear c24
                          try clear c24b0
                          try clear c24b1
                          try clear c25
                          try clear c25b0
                          try clear c25b1
                          try clear q26
                          try clear hcz14_0
                          try clear hcz14_1
                          try clear hcz14_2
                          try clear hcz14_3
                          try clear hcz16_0
                          try clear hcz16_1
                          try clear hcz16_2
                          try clear hcz16_3
                          try clear hcz18_0
                          try clear hcz18_1
                          try clear hcz18_2
                          try clear hcz18_3
                          try clear hcz20_0
                          try clear hcz20_1
                          try clear hcz20_2
                          try clear hcz20_3
                          try clear hcz21_0
                          try clear hcz21_1
                          try clear hcz21_2
                          try clear hcz21_3
                          try clear hcz22_0
                          try clear hcz22_1
                          try clear hcz22_2
                          try clear hcz22_3
                          try clear hcz8_0
                          try clear hcz8_1
                          try clear hcz8_2
                          try clear hcz8_3
                          try clear hfz14_0
                          try clear hfz14_1
                          try clear hfz14_2
                          try clear hfz14_3
                          try clear hfz16_0
                          try clear hfz16_1
                          try clear hfz16_2
                          try clear hfz16_3
                          try clear hfz18_0
                          try clear hfz18_1
                          try clear hfz18_2
                          try clear hfz18_3
                          try clear hfz20_0
                          try clear hfz20_1
                          try clear hfz20_2
                          try clear hfz20_3
                          try clear hfz21_0
                          try clear hfz21_1
                          try clear hfz21_2
                          try clear hfz21_3
                          try clear hfz22_0
                          try clear hfz22_1
                          try clear hfz22_2
                          try clear hfz22_3
                          try clear hfz8_0
                          try clear hfz8_1
                          try clear hfz8_2
                          try clear hfz8_3
                          try clear hx228_0
                          try clear hx228_1
                          try clear hx228_2
                          try clear hx228_3
                          try clear p2
                          try clear p22
                          try clear p228
                          try clear q2
                          try clear q22
                          try clear q228
                          try clear q26
                          obtain ⟨x65_3, rfl, HA, HK3, BK229, HB⟩ := hrel
                          cases gk with
                          | zero => exact absurd HA.out (by simp [crossbarref08_Check.l1])
                          | succ k3 =>
                            have H := HA.out
                            clear HA
                            simp only [crossbarref08_Check.l1] at H
                            by_cases c27 : x65_3 < (y231.length : Int)
                            · rw [if_pos c27] at H
                              have c27b0 : decide (x65_3 < (y231.length : Int)) = true := decide_eq_true c27
                              clear c27
                              by_cases c28 : 0 ≤ x65_3
                              · rw [if_pos c28] at H
                                have c28b0 : decide (0 ≤ x65_3) = true := decide_eq_true c28
                                clear c28
                                by_cases c29 : x65_3 < (y231.length : Int)
                                · rw [if_pos c29] at H
                                  have c29b0 : decide (x65_3 < (y231.length : Int)) = true := decide_eq_true c29
                                  clear c29
                                  by_cases c30 : ((rd_T61 y231 x65_3).f0).toList = ((rd_T61 l0 x13_1).f0).toList
                                  · rw [if_pos c30] at H
                                    have c30b0 : (((rd_T61 y231 x65_3).f0).toList == ((rd_T61 l0 x13_1).f0).toList) = true := beq_iff_eq.mpr c30
                                    have c30b1 : (((rd_T61 y231 x65_3).f0).toList != ((rd_T61 l0 x13_1).f0).toList) = false := bne_eq_false_iff_eq.mpr c30
                                    clear c30
                                    obtain rfl := Option.some.inj H
                                    have p235 : 0 ≤ (x65_3 : Int) := of_decide_eq_true (by first | (with_reducible assumption) | assumption)
                                    have q235 : x65_3 < (y231.length : Int) := of_decide_eq_true (by first | (with_reducible assumption) | assumption)
                                    obtain ⟨ad235, e235, hx235_0, hx235_1, hx235_2, hx235_3⟩ := at_T61 HR234.out x65_3 p235 q235
                                    obtain rfl : ad228 = ad235 := (by injection e235)
                                    replace hx235_0 := (HB.out.cell (World.block_lt_of_cell? w _ hx235_0)).trans hx235_0
                                    replace hx235_1 := (HB.out.cell (World.block_lt_of_cell? w _ hx235_1)).trans hx235_1
                                    replace hx235_2 := (HB.out.cell (World.block_lt_of_cell? w _ hx235_2)).trans hx235_2
                                    replace hx235_3 := (HB.out.cell (World.block_lt_of_cell? w _ hx235_3)).trans hx235_3
                                    replace p235 := eq_true p235
                                    replace q235 := eq_true q235
                                    go_wp2_with (first | ((with_reducible refine gate_dst (N := 7) rfl ?_); refine box_event ?hg (N := 7) ?hd (cs := #[.string (⟨#[]⟩ : ByteArray), .int .i64 0, .int .i64 0, .int .i64 0]) (t := 61) ?hr ?_; (case hd => rfl); (case hg => rfl); (case hr => first | (go_simp; done) | (go_simp; rfl)); intro gb236 hg w31 hbox hb; have n0_ := Aside0.mk (blk_below (g := gb229) (o := .cells #[.string ((rd_T61 l0 x13_1).f0), .int .i64 ((rd_T61 l0 x13_1).f1), .int .i64 ((rd_T61 l0 x13_1).f2), .int .i64 ((rd_T61 l0 x13_1).f3)] 61 (0, 0)) (by (with_reducible repeat (first | refine blk_drewN ?_ _ | refine blk_drew ?_ | refine blk_alloc ?_ _)); exact BK229.out) hb); have n1_ := Aside0.mk (below_step (by repeat (first | (with_reducible first | exact HB.out | apply below_alloc | apply pw_below_drewN | apply below_drew1 | refine below_set ?_ GE229.out) | exact HB.out)) hb); have n2_ := Aside0.mk (hbox); have n3_ := Aside0.mk ((by rw [hg]; exact (below_size (by repeat (first | (with_reducible first | exact HB.out | apply below_alloc | apply pw_below_drewN | apply below_drew1 | refine below_set ?_ GE229.out) | exact HB.out))) : w.heap.size ≤ gb236)); have n4_ := Aside0.mk ((by rw [hg]; exact (below_size (by repeat (first | (with_reducible first | exact HB.out | apply below_alloc | apply pw_below_drewN | apply below_drew1 | refine below_set ?_ GE229.out) | exact HB.out))) : w.heap.size ≤ gb236)); have n5_ := Aside0.mk ((by rw [hg]; exact Nat.ne_of_lt (blk_lt (g := gb229) (o := .cells #[.string ((rd_T61 l0 x13_1).f0), .int .i64 ((rd_T61 l0 x13_1).f1), .int .i64 ((rd_T61 l0 x13_1).f2), .int .i64 ((rd_T61 l0 x13_1).f3)] 61 (0, 0)) (by (with_reducible repeat (first | refine blk_drewN ?_ _ | refine blk_drew ?_ | refine blk_alloc ?_ _)); exact BK229.out)) : gb229 ≠ gb236)); have n6_ := Aside0.mk ((by rw [hg]; exact Nat.ne_of_gt (blk_lt (g := gb229) (o := .cells #[.string ((rd_T61 l0 x13_1).f0), .int .i64 ((rd_T61 l0 x13_1).f1), .int .i64 ((rd_T61 l0 x13_1).f2), .int .i64 ((rd_T61 l0 x13_1).f3)] 61 (0, 0)) (by (with_reducible repeat (first | refine blk_drewN ?_ _ | refine blk_drew ?_ | refine blk_alloc ?_ _)); exact BK229.out)) : gb236 ≠ gb229)); clear BK229; clear HB; have BK229 := n0_; have HB := n1_; have BK236 := n2_; have GW236 := n3_; have GE236 := n4_; have NB229_236 := n5_; have NB236_229 := n6_; clear n0_ n1_ n2_ n3_ n4_ n5_ n6_; clear hb hbox hg; have hnb32 := NB236_229.out; have hnc32 := NB229_236.out; have hcz33_0 : w31.cell? ⟨gb236, 0, none⟩ = some (.string (⟨#[]⟩ : ByteArray)) := (blk_cell BK236.out 0).trans rfl; have hcz33_1 : w31.cell? ⟨gb236, 1, none⟩ = some (.int .i64 0) := (blk_cell BK236.out 1).trans rfl; have hcz33_2 : w31.cell? ⟨gb236, 2, none⟩ = some (.int .i64 0) := (blk_cell BK236.out 2).trans rfl; have hcz33_3 : w31.cell? ⟨gb236, 3, none⟩ = some (.int .i64 0) := (blk_cell BK236.out 3).trans rfl; have hfz33_0 := blk_frozen BK236.out 0; have hfz33_1 := blk_frozen BK236.out 1; have hfz33_2 := blk_frozen BK236.out 2; have hfz33_3 := blk_frozen BK236.out 3; have hcz34_0 : w31.cell? ⟨gb229, 0, none⟩ = some (.string ((rd_T61 l0 x13_1).f0)) := (blk_cell BK229.out 0).trans rfl; have hcz34_1 : w31.cell? ⟨gb229, 1, none⟩ = some (.int .i64 ((rd_T61 l0 x13_1).f1)) := (blk_cell BK229.out 1).trans rfl; have hcz34_2 : w31.cell? ⟨gb229, 2, none⟩ = some (.int .i64 ((rd_T61 l0 x13_1).f2)) := (blk_cell BK229.out 2).trans rfl; have hcz34_3 : w31.cell? ⟨gb229, 3, none⟩ = some (.int .i64 ((rd_T61 l0 x13_1).f3)) := (blk_cell BK229.out 3).trans rfl; have hfz34_0 := blk_frozen BK229.out 0; have hfz34_1 := blk_frozen BK229.out 1; have hfz34_2 := blk_frozen BK229.out 2; have hfz34_3 := blk_frozen BK229.out 3))
                                    go_ret
                                    exact ⟨by first | rfl | (simp [errW_none, errW_some] <;> rfl) | (simp [*, errW_none, errW_some] <;> rfl), by repeat (first | (with_reducible first | exact HB.out | apply below_alloc | apply pw_below_drewN | apply below_drew1 | refine below_set ?_ GE229.out | refine below_set ?_ GE236.out) | exact HB.out)⟩
                                  · rw [if_neg c30] at H
                                    have c30b0 : (((rd_T61 y231 x65_3).f0).toList == ((rd_T61 l0 x13_1).f0).toList) = false := beq_eq_false_iff_ne.mpr c30
                                    have c30b1 : (((rd_T61 y231 x65_3).f0).toList != ((rd_T61 l0 x13_1).f0).toList) = true := bne_iff_ne.mpr c30
                                    have H' := Aside0.mk H
                                    clear H
                                    have p235 : 0 ≤ (x65_3 : Int) := of_decide_eq_true (by first | (with_reducible assumption) | assumption)
                                    have q235 : x65_3 < (y231.length : Int) := of_decide_eq_true (by first | (with_reducible assumption) | assumption)
                                    obtain ⟨ad235, e235, hx235_0, hx235_1, hx235_2, hx235_3⟩ := at_T61 HR234.out x65_3 p235 q235
                                    obtain rfl : ad228 = ad235 := (by injection e235)
                                    replace hx235_0 := (HB.out.cell (World.block_lt_of_cell? w _ hx235_0)).trans hx235_0
                                    replace hx235_1 := (HB.out.cell (World.block_lt_of_cell? w _ hx235_1)).trans hx235_1
                                    replace hx235_2 := (HB.out.cell (World.block_lt_of_cell? w _ hx235_2)).trans hx235_2
                                    replace hx235_3 := (HB.out.cell (World.block_lt_of_cell? w _ hx235_3)).trans hx235_3
                                    replace p235 := eq_true p235
                                    replace q235 := eq_true q235
                                    go_wp2_with (first | ((with_reducible refine gate_dst (N := 7) rfl ?_); refine box_event ?hg (N := 7) ?hd (cs := #[.string (⟨#[]⟩ : ByteArray), .int .i64 0, .int .i64 0, .int .i64 0]) (t := 61) ?hr ?_; (case hd => rfl); (case hg => rfl); (case hr => first | (go_simp; done) | (go_simp; rfl)); intro gb236 hg w35 hbox hb; have n0_ := Aside0.mk (blk_below (g := gb229) (o := .cells #[.string ((rd_T61 l0 x13_1).f0), .int .i64 ((rd_T61 l0 x13_1).f1), .int .i64 ((rd_T61 l0 x13_1).f2), .int .i64 ((rd_T61 l0 x13_1).f3)] 61 (0, 0)) (by (with_reducible repeat (first | refine blk_drewN ?_ _ | refine blk_drew ?_ | refine blk_alloc ?_ _)); exact BK229.out) hb); have n1_ := Aside0.mk (below_step (by repeat (first | (with_reducible first | exact HB.out | apply below_alloc | apply pw_below_drewN | apply below_drew1 | refine below_set ?_ GE229.out) | exact HB.out)) hb); have n2_ := Aside0.mk (hbox); have n3_ := Aside0.mk ((by rw [hg]; exact (below_size (by repeat (first | (with_reducible first | exact HB.out | apply below_alloc | apply pw_below_drewN | apply below_drew1 | refine below_set ?_ GE229.out) | exact HB.out))) : w.heap.size ≤ gb236)); have n4_ := Aside0.mk ((by rw [hg]; exact (below_size (by repeat (first | (with_reducible first | exact HB.out | apply below_alloc | apply pw_below_drewN | apply below_drew1 | refine below_set ?_ GE229.out) | exact HB.out))) : w.heap.size ≤ gb236)); have n5_ := Aside0.mk ((by rw [hg]; exact Nat.ne_of_lt (blk_lt (g := gb229) (o := .cells #[.string ((rd_T61 l0 x13_1).f0), .int .i64 ((rd_T61 l0 x13_1).f1), .int .i64 ((rd_T61 l0 x13_1).f2), .int .i64 ((rd_T61 l0 x13_1).f3)] 61 (0, 0)) (by (with_reducible repeat (first | refine blk_drewN ?_ _ | refine blk_drew ?_ | refine blk_alloc ?_ _)); exact BK229.out)) : gb229 ≠ gb236)); have n6_ := Aside0.mk ((by rw [hg]; exact Nat.ne_of_gt (blk_lt (g := gb229) (o := .cells #[.string ((rd_T61 l0 x13_1).f0), .int .i64 ((rd_T61 l0 x13_1).f1), .int .i64 ((rd_T61 l0 x13_1).f2), .int .i64 ((rd_T61 l0 x13_1).f3)] 61 (0, 0)) (by (with_reducible repeat (first | refine blk_drewN ?_ _ | refine blk_drew ?_ | refine blk_alloc ?_ _)); exact BK229.out)) : gb236 ≠ gb229)); clear BK229; clear HB; have BK229 := n0_; have HB := n1_; have BK236 := n2_; have GW236 := n3_; have GE236 := n4_; have NB229_236 := n5_; have NB236_229 := n6_; clear n0_ n1_ n2_ n3_ n4_ n5_ n6_; clear hb hbox hg; have hnb36 := NB236_229.out; have hnc36 := NB229_236.out; have hcz37_0 : w35.cell? ⟨gb236, 0, none⟩ = some (.string (⟨#[]⟩ : ByteArray)) := (blk_cell BK236.out 0).trans rfl; have hcz37_1 : w35.cell? ⟨gb236, 1, none⟩ = some (.int .i64 0) := (blk_cell BK236.out 1).trans rfl; have hcz37_2 : w35.cell? ⟨gb236, 2, none⟩ = some (.int .i64 0) := (blk_cell BK236.out 2).trans rfl; have hcz37_3 : w35.cell? ⟨gb236, 3, none⟩ = some (.int .i64 0) := (blk_cell BK236.out 3).trans rfl; have hfz37_0 := blk_frozen BK236.out 0; have hfz37_1 := blk_frozen BK236.out 1; have hfz37_2 := blk_frozen BK236.out 2; have hfz37_3 := blk_frozen BK236.out 3; have hcz38_0 : w35.cell? ⟨gb229, 0, none⟩ = some (.string ((rd_T61 l0 x13_1).f0)) := (blk_cell BK229.out 0).trans rfl; have hcz38_1 : w35.cell? ⟨gb229, 1, none⟩ = some (.int .i64 ((rd_T61 l0 x13_1).f1)) := (blk_cell BK229.out 1).trans rfl; have hcz38_2 : w35.cell? ⟨gb229, 2, none⟩ = some (.int .i64 ((rd_T61 l0 x13_1).f2)) := (blk_cell BK229.out 2).trans rfl; have hcz38_3 : w35.cell? ⟨gb229, 3, none⟩ = some (.int .i64 ((rd_T61 l0 x13_1).f3)) := (blk_cell BK229.out 3).trans rfl; have hfz38_0 := blk_frozen BK229.out 0; have hfz38_1 := blk_frozen BK229.out 1; have hfz38_2 := blk_frozen BK229.out 2; have hfz38_3 := blk_frozen BK229.out 3))
                                    go_roundg k3
                                    case measure => have := HK1.out; have := HJ5.out; have := HK3.out; omega
                                    case rel => exact ⟨(wrap64 (x65_3 + 1)), (by first | rfl | (simp; done) | (simp [*]; done)), H', ⟨by have := HK1.out; have := HJ5.out; have := HK3.out; omega⟩, ⟨by (with_reducible repeat (first | refine blk_drewN ?_ _ | refine blk_drew ?_ | refine blk_alloc ?_ _)); refine blk_far ?_ NB229_236.out _; (with_reducible repeat (first | refine blk_drewN ?_ _ | refine blk_drew ?_ | refine blk_alloc ?_ _)); refine blk_far ?_ NB229_236.out _; (with_reducible repeat (first | refine blk_drewN ?_ _ | refine blk_drew ?_ | refine blk_alloc ?_ _)); refine blk_far ?_ NB229_236.out _; (with_reducible repeat (first | refine blk_drewN ?_ _ | refine blk_drew ?_ | refine blk_alloc ?_ _)); refine blk_far ?_ NB229_236.out _; (with_reducible repeat (first | refine blk_drewN ?_ _ | refine blk_drew ?_ | refine blk_alloc ?_ _)); exact BK229.out⟩, ⟨by repeat (first | (with_reducible first | exact HB.out | apply below_alloc | apply pw_below_drewN | apply below_drew1 | refine below_set ?_ GE229.out | refine below_set ?_ GE236.out) | exact HB.out)⟩⟩
                                · rw [if_neg c29] at H
                                  exact absurd H (by simp)
                              · rw [if_neg c28] at H
                                exact absurd H (by simp)
                            · rw [if_neg c27] at H
                              have c27b0 : decide (x65_3 < (y231.length : Int)) = false := decide_eq_false c27
                              clear c27
                              have H' := Aside0.mk H
                              clear H
                              go_wp2
                              go_roundg k3
                              case measure => have := HK1.out; have := HJ5.out; have := HK3.out; omega
                              case rel => exact ⟨(wrap64 (x13_1 + 1)), (by first | rfl | (simp; done) | (simp [*]; done)), H', ⟨by have := HK1.out; have := HJ5.out; have := HK3.out; omega⟩, ⟨by repeat (first | (with_reducible first | exact HB.out | apply below_alloc | apply pw_below_drewN | apply below_drew1 | refine below_set ?_ GE229.out) | exact HB.out)⟩⟩
                      · rw [if_neg c25] at H
                        exact absurd H (by simp)
                    · rw [if_neg c24] at H
                      exact absurd H (by simp)
            · rw [if_neg c5] at H
              exact absurd H (by simp)
          · rw [if_neg c4] at H
            exact absurd H (by simp)
        · rw [if_neg c3] at H
          have c3b0 : decide (x13_1 < (l0.length : Int)) = false := decide_eq_false c3
          clear c3
          obtain rfl := Option.some.inj H
          go_wp2
          go_ret
          exact ⟨by first | rfl | (simp [errW_none, errW_some] <;> rfl) | (simp [*, errW_none, errW_some] <;> rfl), by repeat (first | (with_reducible first | exact HB.out | apply below_alloc | apply pw_below_drewN | apply below_drew1) | exact HB.out)⟩
end Go.Proofs.YtmendieiikmbhaaDoor.Fn
