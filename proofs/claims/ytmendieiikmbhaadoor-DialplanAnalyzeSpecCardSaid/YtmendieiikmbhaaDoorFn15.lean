-- printed by a program of this session, out of the translation; Lean checks it
import Derived.Test.YtmendieiikmbhaaDoorFn0
import Derived.Test.YtmendieiikmbhaaDoorFn14x1
namespace Go.Proofs.YtmendieiikmbhaaDoor.Fn
open Go.RowKit Go.Proofs.YtmendieiikmbhaaDoorW.PrintWords Go.Proofs.YtmendieiikmbhaaDoorW.PrintLast Go.Proofs.YtmendieiikmbhaaDoorW.PrintMore
attribute [local go_sem] max2_int min2_int max_two min_two max_three min_three max_four min_four   -- for this text's walks alone
set_option linter.unusedVariables false
set_option linter.unusedSimpArgs false

/-! ### crossbarref08_state: function 65 -/
mutual
def crossbarref08_state.j0 : Nat → List (S61) → Bool → Int → Int → Bool → Option (Int)
  | 0, _, _, _, _, _ => none
  | k + 1, x0, x2, x3, x9, x27 => if x27 = true then (some 1) else (if x3 < 0 then (crossbarref08_state.j1 k x0 x2 x3 x9 true) else (if 0 ≤ x3 then (if x3 < (x0.length : Int) then (crossbarref08_state.j1 k x0 x2 x3 x9 (((rd_T61 x0 x3).f3) == 4)) else (none)) else (none)))
def crossbarref08_state.j1 : Nat → List (S61) → Bool → Int → Int → Bool → Option (Int)
  | 0, _, _, _, _, _ => none
  | k + 1, x0, x2, x3, x9, x37 => if x37 = true then (some 3) else (if 0 ≤ x3 then (if x3 < (x0.length : Int) then (if x2 = true then (if x9 ≥ ((rd_T61 x0 x3).f1) then (if x9 ≤ ((rd_T61 x0 x3).f2) then (crossbarref08_state.j2 k x2 x9 true ((rd_T61 x0 x3).f0) ((rd_T61 x0 x3).f1) ((rd_T61 x0 x3).f2) ((rd_T61 x0 x3).f3)) else (crossbarref08_state.j2 k x2 x9 false ((rd_T61 x0 x3).f0) ((rd_T61 x0 x3).f1) ((rd_T61 x0 x3).f2) ((rd_T61 x0 x3).f3))) else (crossbarref08_state.j2 k x2 x9 false ((rd_T61 x0 x3).f0) ((rd_T61 x0 x3).f1) ((rd_T61 x0 x3).f2) ((rd_T61 x0 x3).f3))) else (crossbarref08_state.j2 k x2 x9 (x9 == ((rd_T61 x0 x3).f2)) ((rd_T61 x0 x3).f0) ((rd_T61 x0 x3).f1) ((rd_T61 x0 x3).f2) ((rd_T61 x0 x3).f3))) else (none)) else (none))
def crossbarref08_state.j2 : Nat → Bool → Int → Bool → ByteArray → Int → Int → Int → Option (Int)
  | 0, _, _, _, _, _, _, _ => none
  | k + 1, x2, x9, x64, x248000, x248001, x248002, x248003 => if x64 = true then (some 2) else (if x2 = true then (some 3) else (if x9 < x248002 then (some 1) else (some 3)))
end
def crossbarref08_state.f (k : Nat) (l0 : List (S61)) (a1 : ByteArray) (a2 : Bool) (a3 : Int) : Option (Int) := if a2 = true then (crossbarref08_state.j0 k l0 a2 a3 (a1.size : Int) false) else ((crossbarref08_extensible.f k l0 a1).bind fun t244 => (if t244 = true then (crossbarref08_state.j0 k l0 a2 a3 (a1.size : Int) true) else (if a3 < 0 then (crossbarref08_state.j0 k l0 a2 a3 (a1.size : Int) ((a1.size : Int) == 0)) else (crossbarref08_state.j0 k l0 a2 a3 (a1.size : Int) false))))
theorem crossbarref08_state.mono_l : ∀ k, (∀ y0 y1 y2 y3 y4, LeO (crossbarref08_state.j0 k y0 y1 y2 y3 y4) (crossbarref08_state.j0 (k + 1) y0 y1 y2 y3 y4)) ∧ (∀ y0 y1 y2 y3 y4, LeO (crossbarref08_state.j1 k y0 y1 y2 y3 y4) (crossbarref08_state.j1 (k + 1) y0 y1 y2 y3 y4)) ∧ (∀ y0 y1 y2 y3 y4 y5 y6, LeO (crossbarref08_state.j2 k y0 y1 y2 y3 y4 y5 y6) (crossbarref08_state.j2 (k + 1) y0 y1 y2 y3 y4 y5 y6))
  | 0 => ⟨fun _ _ _ _ _ r h => by simp [crossbarref08_state.j0] at h, fun _ _ _ _ _ r h => by simp [crossbarref08_state.j1] at h, fun _ _ _ _ _ _ _ r h => by simp [crossbarref08_state.j2] at h⟩
  | k + 1 => by
    obtain ⟨ih0, ih1, ih2⟩ := crossbarref08_state.mono_l k
    refine ⟨?_, ?_, ?_⟩
    · intro y0 y1 y2 y3 y4
      unfold crossbarref08_state.j0
      repeat' first
      | (with_reducible exact ih0 _ _ _ _ _)
      | (with_reducible exact ih1 _ _ _ _ _)
      | (with_reducible exact ih2 _ _ _ _ _ _ _)
      | (with_reducible exact crossbarref08_extensible.mono _ _ _)
      | (with_reducible exact LeO.refl _)
      | (with_reducible exact LeO.none _)
      | (with_reducible refine LeO.ite ?_ ?_)
      | (with_reducible refine LeO.bind ?_ (fun _ => ?_))
      | exact ih0 _ _ _ _ _
      | exact ih1 _ _ _ _ _
      | exact ih2 _ _ _ _ _ _ _
      | exact crossbarref08_extensible.mono _ _ _
      | exact LeO.none _
      | refine LeO.ite ?_ ?_
      | refine LeO.bind ?_ (fun _ => ?_)
    · intro y0 y1 y2 y3 y4
      unfold crossbarref08_state.j1
      repeat' first
      | (with_reducible exact ih0 _ _ _ _ _)
      | (with_reducible exact ih1 _ _ _ _ _)
      | (with_reducible exact ih2 _ _ _ _ _ _ _)
      | (with_reducible exact crossbarref08_extensible.mono _ _ _)
      | (with_reducible exact LeO.refl _)
      | (with_reducible exact LeO.none _)
      | (with_reducible refine LeO.ite ?_ ?_)
      | (with_reducible refine LeO.bind ?_ (fun _ => ?_))
      | exact ih0 _ _ _ _ _
      | exact ih1 _ _ _ _ _
      | exact ih2 _ _ _ _ _ _ _
      | exact crossbarref08_extensible.mono _ _ _
      | exact LeO.none _
      | refine LeO.ite ?_ ?_
      | refine LeO.bind ?_ (fun _ => ?_)
    · intro y0 y1 y2 y3 y4 y5 y6
      unfold crossbarref08_state.j2
      repeat' first
      | (with_reducible exact ih0 _ _ _ _ _)
      | (with_reducible exact ih1 _ _ _ _ _)
      | (with_reducible exact ih2 _ _ _ _ _ _ _)
      | (with_reducible exact crossbarref08_extensible.mono _ _ _)
      | (with_reducible exact LeO.refl _)
      | (with_reducible exact LeO.none _)
      | (with_reducible refine LeO.ite ?_ ?_)
      | (with_reducible refine LeO.bind ?_ (fun _ => ?_))
      | exact ih0 _ _ _ _ _
      | exact ih1 _ _ _ _ _
      | exact ih2 _ _ _ _ _ _ _
      | exact crossbarref08_extensible.mono _ _ _
      | exact LeO.none _
      | refine LeO.ite ?_ ?_
      | refine LeO.bind ?_ (fun _ => ?_)
theorem crossbarref08_state.mono : ∀ a0 a1 a2 a3 k, LeO (crossbarref08_state.f k a0 a1 a2 a3) (crossbarref08_state.f (k + 1) a0 a1 a2 a3) := by
  intro a0 a1 a2 a3 k
  obtain ⟨ih0, ih1, ih2⟩ := crossbarref08_state.mono_l k
  unfold crossbarref08_state.f
  repeat' first
      | (with_reducible exact ih0 _ _ _ _ _)
      | (with_reducible exact ih1 _ _ _ _ _)
      | (with_reducible exact ih2 _ _ _ _ _ _ _)
      | (with_reducible exact crossbarref08_extensible.mono _ _ _)
      | (with_reducible exact LeO.refl _)
      | (with_reducible exact LeO.none _)
      | (with_reducible refine LeO.ite ?_ ?_)
      | (with_reducible refine LeO.bind ?_ (fun _ => ?_))
      | exact ih0 _ _ _ _ _
      | exact ih1 _ _ _ _ _
      | exact ih2 _ _ _ _ _ _ _
      | exact crossbarref08_extensible.mono _ _ _
      | exact LeO.none _
      | refine LeO.ite ?_ ?_
      | refine LeO.bind ?_ (fun _ => ?_)
set_option maxHeartbeats 8000000 in
set_option maxRecDepth 100000 in
theorem crossbarref08_state.calls (k : Nat) (A0 : Option Addr) (c0 : Nat) (l0 : List (S61)) (a1 : ByteArray) (a2 : Bool) (a3 : Int) (r : Int) (w : World) (hr0 : Kd.C k61 w A0 l0.length l0) (hc0 : l0.length ≤ c0) (h : crossbarref08_state.f k l0 a1 a2 a3 = some r) :
    Calls Tryd.prog 65 #[.slice A0 l0.length c0, .string a1, .bool a2, .int .i64 a3] w fun e w' => e = .returned (.int .i64 r) ∧ Below w.heap.size w w' := by
  have hu61 := Tryd.underlying61
  have HR0 := Aside0.mk hr0
  have HC0 := Aside0.mk hc0
  clear hr0 hc0
  have HB := Aside0.mk (Below.refl w.heap.size w)
  have H : (if a2 = true then (crossbarref08_state.j0 k l0 a2 a3 (a1.size : Int) false) else ((crossbarref08_extensible.f k l0 a1).bind fun t244 => (if t244 = true then (crossbarref08_state.j0 k l0 a2 a3 (a1.size : Int) true) else (if a3 < 0 then (crossbarref08_state.j0 k l0 a2 a3 (a1.size : Int) ((a1.size : Int) == 0)) else (crossbarref08_state.j0 k l0 a2 a3 (a1.size : Int) false))))) = some r := h
  clear h
  have HC5 := Aside0.mk H
  clear H
  go_enter Tryd.func65, Tryd.ntmps65
  go_upto_region 2 with (fail)
  go_cut [27] (fun v27 wc => ∃ (kq : Nat) (x27_4 : Bool), v27 = .bool x27_4 ∧ Aside0 (crossbarref08_state.j0 kq l0 a2 a3 (a1.size : Int) x27_4 = some r) ∧ Aside0 (kq ≤ k) ∧ Aside0 (Below w.heap.size w wc))
  case first =>
    have H := HC5.out
    clear HC5
    by_cases c6 : a2 = true
    · subst c6
      have H1 : (crossbarref08_state.j0 k l0 true a3 (a1.size : Int) false) = some r := by rw [if_pos rfl] at H; exact H
      clear H
      have H := H1
      clear H1
      have H' := Aside0.mk H
      clear H
      go_wp2
      go_meet
      case rel => exact ⟨_, (false), (by first | rfl | (simp; done) | (simp [*]; done)), H', ⟨by first | omega | exact Nat.le_refl _⟩, ⟨by repeat (first | (with_reducible first | exact HB.out | apply below_alloc | apply pw_below_drewN | apply below_drew1) | exact HB.out)⟩⟩
    · replace c6 := Bool.eq_false_iff.mpr c6
      subst c6
      have H1 : ((crossbarref08_extensible.f k l0 a1).bind fun t244 => (if t244 = true then (crossbarref08_state.j0 k l0 false a3 (a1.size : Int) true) else (if a3 < 0 then (crossbarref08_state.j0 k l0 false a3 (a1.size : Int) ((a1.size : Int) == 0)) else (crossbarref08_state.j0 k l0 false a3 (a1.size : Int) false)))) = some r := by rw [if_neg (show ¬ (false = true) by decide)] at H; exact H
      clear H
      have H := H1
      clear H1
      replace H := Option.bind_eq_some_iff.mp H
      obtain ⟨t244, A70, H⟩ := H
      replace H : (if t244 = true then (crossbarref08_state.j0 k l0 false a3 (a1.size : Int) true) else (if a3 < 0 then (crossbarref08_state.j0 k l0 false a3 (a1.size : Int) ((a1.size : Int) == 0)) else (crossbarref08_state.j0 k l0 false a3 (a1.size : Int) false))) = some r := H
      have A7 := Aside0.mk A70
      clear A70
      by_cases c8 : t244 = true
      · subst c8
        have H1 : (crossbarref08_state.j0 k l0 false a3 (a1.size : Int) true) = some r := by rw [if_pos rfl] at H; exact H
        clear H
        have H := H1
        clear H1
        have H' := Aside0.mk H
        clear H
        go_wp2_with (first | (go_at_call 72; (with_reducible refine (crossbarref08_extensible.calls k _ _ l0 a1 true _ ?side1 ?side2 A7.out).mono ?_); (case side1 => repeat (first | exact (Kd.C_below HR0.out HB.out) | (with_reducible refine Kd.C_alloc ?_ _) | (with_reducible refine Kd.C_drewN ?_ _) | (with_reducible refine Kd.C_drew ?_))); (case side2 => exact HC0.out); rintro e w9 ⟨rfl, hb⟩; have n0_ := Aside0.mk (below_step (by repeat (first | (with_reducible first | exact HB.out | apply below_alloc | apply pw_below_drewN | apply below_drew1) | exact HB.out)) hb); clear HB; have HB := n0_; clear n0_; (try clear hb); (try clear hb2); (try clear hk); (try clear hi)))
        go_meet
        case rel => exact ⟨_, (true), (by first | rfl | (simp; done) | (simp [*]; done)), H', ⟨by first | omega | exact Nat.le_refl _⟩, ⟨by repeat (first | (with_reducible first | exact HB.out | apply below_alloc | apply pw_below_drewN | apply below_drew1) | exact HB.out)⟩⟩
      · replace c8 := Bool.eq_false_iff.mpr c8
        subst c8
        have H1 : (if a3 < 0 then (crossbarref08_state.j0 k l0 false a3 (a1.size : Int) ((a1.size : Int) == 0)) else (crossbarref08_state.j0 k l0 false a3 (a1.size : Int) false)) = some r := by rw [if_neg (show ¬ (false = true) by decide)] at H; exact H
        clear H
        have H := H1
        clear H1
        by_cases c10 : a3 < 0
        · rw [if_pos c10] at H
          have c10b0 : decide (a3 < 0) = true := decide_eq_true c10
          clear c10
          (first | rw [c10b0] | (simp only [i64_w, i32_w]; rw [c10b0]) | skip)
          have H' := Aside0.mk H
          clear H
          go_wp2_with (first | (go_at_call 72; (with_reducible refine (crossbarref08_extensible.calls k _ _ l0 a1 false _ ?side1 ?side2 A7.out).mono ?_); (case side1 => repeat (first | exact (Kd.C_below HR0.out HB.out) | (with_reducible refine Kd.C_alloc ?_ _) | (with_reducible refine Kd.C_drewN ?_ _) | (with_reducible refine Kd.C_drew ?_))); (case side2 => exact HC0.out); rintro e w11 ⟨rfl, hb⟩; have n0_ := Aside0.mk (below_step (by repeat (first | (with_reducible first | exact HB.out | apply below_alloc | apply pw_below_drewN | apply below_drew1) | exact HB.out)) hb); clear HB; have HB := n0_; clear n0_; (try clear hb); (try clear hb2); (try clear hk); (try clear hi)))
          go_meet
          case rel => exact ⟨_, (((a1.size : Int) == 0)), (by first | rfl | (simp; done) | (simp [*]; done)), H', ⟨by first | omega | exact Nat.le_refl _⟩, ⟨by repeat (first | (with_reducible first | exact HB.out | apply below_alloc | apply pw_below_drewN | apply below_drew1) | exact HB.out)⟩⟩
        · rw [if_neg c10] at H
          have c10b0 : decide (a3 < 0) = false := decide_eq_false c10
          clear c10
          (first | rw [c10b0] | (simp only [i64_w, i32_w]; rw [c10b0]) | skip)
          have H' := Aside0.mk H
          clear H
          go_wp2_with (first | (go_at_call 72; (with_reducible refine (crossbarref08_extensible.calls k _ _ l0 a1 false _ ?side1 ?side2 A7.out).mono ?_); (case side1 => repeat (first | exact (Kd.C_below HR0.out HB.out) | (with_reducible refine Kd.C_alloc ?_ _) | (with_reducible refine Kd.C_drewN ?_ _) | (with_reducible refine Kd.C_drew ?_))); (case side2 => exact HC0.out); rintro e w12 ⟨rfl, hb⟩; have n0_ := Aside0.mk (below_step (by repeat (first | (with_reducible first | exact HB.out | apply below_alloc | apply pw_below_drewN | apply below_drew1) | exact HB.out)) hb); clear HB; have HB := n0_; clear n0_; (try clear hb); (try clear hb2); (try clear hk); (try clear hi)))
          go_meet
          case rel => exact ⟨_, (false), (by first | rfl | (simp; done) | (simp [*]; done)), H', ⟨by first | omega | exact Nat.le_refl _⟩, ⟨by repeat (first | (with_reducible first | exact HB.out | apply below_alloc | apply pw_below_drewN | apply below_drew1) | exact HB.out)⟩⟩
  case rest =>
    clear HC5
    try clear c1
    try clear p2
    try clear c6
    try clear c8
    try clear c10
    try clear c10b0
    obtain ⟨kq, x27_4, rfl, HA, HJ4, HB⟩ := hcut
    cases kq with
    | zero => exact absurd HA.out (by simp [crossbarref08_state.j0])
    | succ kj4 =>
      have H := HA.out
      clear HA
      simp only [crossbarref08_state.j0] at H
      by_cases c13 : x27_4 = true
      · subst c13
        have H1 : (some 1) = some r := by rw [if_pos rfl] at H; exact H
        clear H
        have H := H1
        clear H1
        obtain rfl := Option.some.inj H
        go_wp2
        go_ret
        exact ⟨by first | rfl | (simp [errW_none, errW_some] <;> rfl) | (simp [*, errW_none, errW_some] <;> rfl), by repeat (first | (with_reducible first | exact HB.out | apply below_alloc | apply pw_below_drewN | apply below_drew1) | exact HB.out)⟩
      · replace c13 := Bool.eq_false_iff.mpr c13
        subst c13
        have H1 : (if a3 < 0 then (crossbarref08_state.j1 kj4 l0 a2 a3 (a1.size : Int) true) else (if 0 ≤ a3 then (if a3 < (l0.length : Int) then (crossbarref08_state.j1 kj4 l0 a2 a3 (a1.size : Int) (((rd_T61 l0 a3).f3) == 4)) else (none)) else (none))) = some r := by rw [if_neg (show ¬ (false = true) by decide)] at H; exact H
        clear H
        have H := H1
        clear H1
        have HC14 := Aside0.mk H
        clear H
        go_upto_region 4 with (fail)
        go_cut [37] (fun v37 wc => ∃ (kq : Nat) (x37_13 : Bool), v37 = .bool x37_13 ∧ Aside0 (crossbarref08_state.j1 kq l0 a2 a3 (a1.size : Int) x37_13 = some r) ∧ Aside0 (kq ≤ kj4) ∧ Aside0 (Below w.heap.size w wc))
        case first =>
          have H := HC14.out
          clear HC14
          by_cases c15 : a3 < 0
          · rw [if_pos c15] at H
            have c15b0 : decide (a3 < 0) = true := decide_eq_true c15
            clear c15
            (first | rw [c15b0] | (simp only [i64_w, i32_w]; rw [c15b0]) | skip)
            have H' := Aside0.mk H
            clear H
            go_wp2
            go_meet
            case rel => exact ⟨_, (true), (by first | rfl | (simp; done) | (simp [*]; done)), H', ⟨by have := HJ4.out; first | omega | exact Nat.le_refl _⟩, ⟨by repeat (first | (with_reducible first | exact HB.out | apply below_alloc | apply pw_below_drewN | apply below_drew1) | exact HB.out)⟩⟩
          · rw [if_neg c15] at H
            have c15b0 : decide (a3 < 0) = false := decide_eq_false c15
            clear c15
            (first | rw [c15b0] | (simp only [i64_w, i32_w]; rw [c15b0]) | skip)
            by_cases c16 : 0 ≤ a3
            · rw [if_pos c16] at H
              have c16b0 : decide (0 ≤ a3) = true := decide_eq_true c16
              clear c16
              by_cases c17 : a3 < (l0.length : Int)
              · rw [if_pos c17] at H
                have c17b0 : decide (a3 < (l0.length : Int)) = true := decide_eq_true c17
                clear c17
                have H' := Aside0.mk H
                clear H
                have p245 : 0 ≤ (a3 : Int) := of_decide_eq_true (by first | (with_reducible assumption) | assumption)
                have q245 : a3 < (l0.length : Int) := of_decide_eq_true (by first | (with_reducible assumption) | assumption)
                obtain ⟨ad245, e245, hx245_0, hx245_1, hx245_2, hx245_3⟩ := at_T61 HR0.out a3 p245 q245
                cases e245
                replace hx245_0 := (HB.out.cell (World.block_lt_of_cell? w _ hx245_0)).trans hx245_0
                replace hx245_1 := (HB.out.cell (World.block_lt_of_cell? w _ hx245_1)).trans hx245_1
                replace hx245_2 := (HB.out.cell (World.block_lt_of_cell? w _ hx245_2)).trans hx245_2
                replace hx245_3 := (HB.out.cell (World.block_lt_of_cell? w _ hx245_3)).trans hx245_3
                replace p245 := eq_true p245
                replace q245 := eq_true q245
                go_wp2
                go_meet
                case rel => exact ⟨_, ((((rd_T61 l0 a3).f3) == 4)), (by first | rfl | (simp; done) | (simp [*]; done)), H', ⟨by have := HJ4.out; first | omega | exact Nat.le_refl _⟩, ⟨by repeat (first | (with_reducible first | exact HB.out | apply below_alloc | apply pw_below_drewN | apply below_drew1) | exact HB.out)⟩⟩
              · rw [if_neg c17] at H
                exact absurd H (by simp)
            · rw [if_neg c16] at H
              exact absurd H (by simp)
        case rest =>
          clear HC14
          try clear c1
          try clear p2
          try clear q2
          try clear hx2
          try clear c6
          try clear c8
          try clear c10
          try clear c10b0
          try clear c13
          try clear c15
          try clear c15b0
          try clear c16
          try clear c16b0
          try clear c17
          try clear c17b0
          try clear hx245_0
          try clear hx245_1
          try clear hx245_2
          try clear hx245_3
          try clear p2
          try clear p245
          try clear q245
          obtain ⟨kq, x37_13, rfl, HA, HJ13, HB⟩ := hcut
          cases kq with
          | zero => exact absurd HA.out (by simp [crossbarref08_state.j1])
          | succ kj13 =>
            have H := HA.out
            clear HA
            simp only [crossbarref08_state.j1] at H
            by_cases c18 : x37_13 = true
            · subst c18
              have H1 : (some 3) = some r := by rw [if_pos rfl] at H; exact H
              clear H
              have H := H1
              clear H1
              obtain rfl := Option.some.inj H
              go_wp2
              go_ret
              exact ⟨by first | rfl | (simp [errW_none, errW_some] <;> rfl) | (simp [*, errW_none, errW_some] <;> rfl), by repeat (first | (with_reducible first | exact HB.out | apply below_alloc | apply pw_below_drewN | apply below_drew1) | exact HB.out)⟩
            · replace c18 := Bool.eq_false_iff.mpr c18
              subst c18
              have H1 : (if 0 ≤ a3 then (if a3 < (l0.length : Int) then (if a2 = true then (if (a1.size : Int) ≥ ((rd_T61 l0 a3).f1) then (if (a1.size : Int) ≤ ((rd_T61 l0 a3).f2) then (crossbarref08_state.j2 kj13 a2 (a1.size : Int) true ((rd_T61 l0 a3).f0) ((rd_T61 l0 a3).f1) ((rd_T61 l0 a3).f2) ((rd_T61 l0 a3).f3)) else (crossbarref08_state.j2 kj13 a2 (a1.size : Int) false ((rd_T61 l0 a3).f0) ((rd_T61 l0 a3).f1) ((rd_T61 l0 a3).f2) ((rd_T61 l0 a3).f3))) else (crossbarref08_state.j2 kj13 a2 (a1.size : Int) false ((rd_T61 l0 a3).f0) ((rd_T61 l0 a3).f1) ((rd_T61 l0 a3).f2) ((rd_T61 l0 a3).f3))) else (crossbarref08_state.j2 kj13 a2 (a1.size : Int) ((a1.size : Int) == ((rd_T61 l0 a3).f2)) ((rd_T61 l0 a3).f0) ((rd_T61 l0 a3).f1) ((rd_T61 l0 a3).f2) ((rd_T61 l0 a3).f3))) else (none)) else (none)) = some r := by rw [if_neg (show ¬ (false = true) by decide)] at H; exact H
              clear H
              have H := H1
              clear H1
              by_cases c19 : 0 ≤ a3
              · rw [if_pos c19] at H
                have c19b0 : decide (0 ≤ a3) = true := decide_eq_true c19
                clear c19
                by_cases c20 : a3 < (l0.length : Int)
                · rw [if_pos c20] at H
                  have c20b0 : decide (a3 < (l0.length : Int)) = true := decide_eq_true c20
                  clear c20
                  have HC21 := Aside0.mk H
                  clear H
                  have p246 : 0 ≤ (a3 : Int) := of_decide_eq_true (by first | (with_reducible assumption) | assumption)
                  have q246 : a3 < (l0.length : Int) := of_decide_eq_true (by first | (with_reducible assumption) | assumption)
                  obtain ⟨ad246, e246, hx246_0, hx246_1, hx246_2, hx246_3⟩ := at_T61 HR0.out a3 p246 q246
                  cases e246
                  replace hx246_0 := (HB.out.cell (World.block_lt_of_cell? w _ hx246_0)).trans hx246_0
                  replace hx246_1 := (HB.out.cell (World.block_lt_of_cell? w _ hx246_1)).trans hx246_1
                  replace hx246_2 := (HB.out.cell (World.block_lt_of_cell? w _ hx246_2)).trans hx246_2
                  replace hx246_3 := (HB.out.cell (World.block_lt_of_cell? w _ hx246_3)).trans hx246_3
                  replace p246 := eq_true p246
                  replace q246 := eq_true q246
                  go_upto_region 7 with (first | ((with_reducible refine gate_dst (N := 10) rfl ?_); refine box_event ?hg (N := 10) ?hd (cs := #[.string (⟨#[]⟩ : ByteArray), .int .i64 0, .int .i64 0, .int .i64 0]) (t := 61) ?hr ?_; (case hd => rfl); (case hg => rfl); (case hr => first | (go_simp; done) | (go_simp; rfl)); intro gb247 hg w22 hbox hb; have n0_ := Aside0.mk (below_step (by repeat (first | (with_reducible first | exact HB.out | apply below_alloc | apply pw_below_drewN | apply below_drew1) | exact HB.out)) hb); have n1_ := Aside0.mk (hbox); have n2_ := Aside0.mk ((by rw [hg]; exact (below_size (by repeat (first | (with_reducible first | exact HB.out | apply below_alloc | apply pw_below_drewN | apply below_drew1) | exact HB.out))) : w.heap.size ≤ gb247)); have n3_ := Aside0.mk ((by rw [hg]; exact (below_size (by repeat (first | (with_reducible first | exact HB.out | apply below_alloc | apply pw_below_drewN | apply below_drew1) | exact HB.out))) : w.heap.size ≤ gb247)); clear HB; have HB := n0_; have BK247 := n1_; have GW247 := n2_; have GE247 := n3_; clear n0_ n1_ n2_ n3_; clear hb hbox hg; have hcz23_0 : w22.cell? ⟨gb247, 0, none⟩ = some (.string (⟨#[]⟩ : ByteArray)) := (blk_cell BK247.out 0).trans rfl; have hcz23_1 : w22.cell? ⟨gb247, 1, none⟩ = some (.int .i64 0) := (blk_cell BK247.out 1).trans rfl; have hcz23_2 : w22.cell? ⟨gb247, 2, none⟩ = some (.int .i64 0) := (blk_cell BK247.out 2).trans rfl; have hcz23_3 : w22.cell? ⟨gb247, 3, none⟩ = some (.int .i64 0) := (blk_cell BK247.out 3).trans rfl; have hfz23_0 := blk_frozen BK247.out 0; have hfz23_1 := blk_frozen BK247.out 1; have hfz23_2 := blk_frozen BK247.out 2; have hfz23_3 := blk_frozen BK247.out 3))
                  (try simp only [Act.put, List.setIfInBounds_toArray, List.set_cons_zero, List.set_cons_succ])
                  go_cut [64] (fun v64 wc => ∃ (kq : Nat) (x64_20 : Bool), v64 = .bool x64_20 ∧ Aside0 (crossbarref08_state.j2 kq a2 (a1.size : Int) x64_20 ((rd_T61 l0 a3).f0) ((rd_T61 l0 a3).f1) ((rd_T61 l0 a3).f2) ((rd_T61 l0 a3).f3) = some r) ∧ Aside0 (kq ≤ kj13) ∧ Aside0 (wc.heap[gb247]? = some (.cells #[.string ((rd_T61 l0 a3).f0), .int .i64 ((rd_T61 l0 a3).f1), .int .i64 ((rd_T61 l0 a3).f2), .int .i64 ((rd_T61 l0 a3).f3)] 61 (0, 0))) ∧ Aside0 (Below w.heap.size w wc))
                  case first =>
                    have H := HC21.out
                    clear HC21
                    by_cases c24 : a2 = true
                    · subst c24
                      have H1 : (if (a1.size : Int) ≥ ((rd_T61 l0 a3).f1) then (if (a1.size : Int) ≤ ((rd_T61 l0 a3).f2) then (crossbarref08_state.j2 kj13 true (a1.size : Int) true ((rd_T61 l0 a3).f0) ((rd_T61 l0 a3).f1) ((rd_T61 l0 a3).f2) ((rd_T61 l0 a3).f3)) else (crossbarref08_state.j2 kj13 true (a1.size : Int) false ((rd_T61 l0 a3).f0) ((rd_T61 l0 a3).f1) ((rd_T61 l0 a3).f2) ((rd_T61 l0 a3).f3))) else (crossbarref08_state.j2 kj13 true (a1.size : Int) false ((rd_T61 l0 a3).f0) ((rd_T61 l0 a3).f1) ((rd_T61 l0 a3).f2) ((rd_T61 l0 a3).f3))) = some r := by rw [if_pos rfl] at H; exact H
                      clear H
                      have H := H1
                      clear H1
                      by_cases c25 : (a1.size : Int) ≥ ((rd_T61 l0 a3).f1)
                      · rw [if_pos c25] at H
                        have c25b0 : decide (((rd_T61 l0 a3).f1) ≤ (a1.size : Int)) = true := decide_eq_true c25
                        clear c25
                        (first | rw [c25b0] | (simp only [i64_w, i32_w]; rw [c25b0]) | skip)
                        by_cases c26 : (a1.size : Int) ≤ ((rd_T61 l0 a3).f2)
                        · rw [if_pos c26] at H
                          have c26b0 : decide ((a1.size : Int) ≤ ((rd_T61 l0 a3).f2)) = true := decide_eq_true c26
                          clear c26
                          have H' := Aside0.mk H
                          clear H
                          have hcz27_0 : w22.cell? ⟨gb247, 0, none⟩ = some (.string (⟨#[]⟩ : ByteArray)) := (blk_cell BK247.out 0).trans rfl
                          have hcz27_1 : w22.cell? ⟨gb247, 1, none⟩ = some (.int .i64 0) := (blk_cell BK247.out 1).trans rfl
                          have hcz27_2 : w22.cell? ⟨gb247, 2, none⟩ = some (.int .i64 0) := (blk_cell BK247.out 2).trans rfl
                          have hcz27_3 : w22.cell? ⟨gb247, 3, none⟩ = some (.int .i64 0) := (blk_cell BK247.out 3).trans rfl
                          have hfz27_0 := blk_frozen BK247.out 0
                          have hfz27_1 := blk_frozen BK247.out 1
                          have hfz27_2 := blk_frozen BK247.out 2
                          have hfz27_3 := blk_frozen BK247.out 3
                          go_wp2
                          go_meet
                          case rel => exact ⟨_, (true), (by first | rfl | (simp; done) | (simp [*]; done)), H', ⟨by have := HJ4.out; have := HJ13.out; first | omega | exact Nat.le_refl _⟩, ⟨by (with_reducible repeat (first | refine blk_drewN ?_ _ | refine blk_drew ?_ | refine blk_alloc ?_ _)); refine blk_put (cs := #[.string ((rd_T61 l0 a3).f0), .int .i64 ((rd_T61 l0 a3).f1), .int .i64 ((rd_T61 l0 a3).f2), .int .i64 0]) ?_ 3 _ rfl; (with_reducible repeat (first | refine blk_drewN ?_ _ | refine blk_drew ?_ | refine blk_alloc ?_ _)); refine blk_put (cs := #[.string ((rd_T61 l0 a3).f0), .int .i64 ((rd_T61 l0 a3).f1), .int .i64 0, .int .i64 0]) ?_ 2 _ rfl; (with_reducible repeat (first | refine blk_drewN ?_ _ | refine blk_drew ?_ | refine blk_alloc ?_ _)); refine blk_put (cs := #[.string ((rd_T61 l0 a3).f0), .int .i64 0, .int .i64 0, .int .i64 0]) ?_ 1 _ rfl; (with_reducible repeat (first | refine blk_drewN ?_ _ | refine blk_drew ?_ | refine blk_alloc ?_ _)); refine blk_put (cs := #[.string (⟨#[]⟩ : ByteArray), .int .i64 0, .int .i64 0, .int .i64 0]) ?_ 0 _ rfl; (with_reducible repeat (first | refine blk_drewN ?_ _ | refine blk_drew ?_ | refine blk_alloc ?_ _)); exact BK247.out⟩, ⟨by repeat (first | (with_reducible first | exact HB.out | apply below_alloc | apply pw_below_drewN | apply below_drew1 | refine below_set ?_ GE247.out) | exact HB.out)⟩⟩
                        · rw [if_neg c26] at H
                          have c26b0 : decide ((a1.size : Int) ≤ ((rd_T61 l0 a3).f2)) = false := decide_eq_false c26
                          clear c26
                          have H' := Aside0.mk H
                          clear H
                          have hcz28_0 : w22.cell? ⟨gb247, 0, none⟩ = some (.string (⟨#[]⟩ : ByteArray)) := (blk_cell BK247.out 0).trans rfl
                          have hcz28_1 : w22.cell? ⟨gb247, 1, none⟩ = some (.int .i64 0) := (blk_cell BK247.out 1).trans rfl
                          have hcz28_2 : w22.cell? ⟨gb247, 2, none⟩ = some (.int .i64 0) := (blk_cell BK247.out 2).trans rfl
                          have hcz28_3 : w22.cell? ⟨gb247, 3, none⟩ = some (.int .i64 0) := (blk_cell BK247.out 3).trans rfl
                          have hfz28_0 := blk_frozen BK247.out 0
                          have hfz28_1 := blk_frozen BK247.out 1
                          have hfz28_2 := blk_frozen BK247.out 2
                          have hfz28_3 := blk_frozen BK247.out 3
                          go_wp2
                          go_meet
                          case rel => exact ⟨_, (false), (by first | rfl | (simp; done) | (simp [*]; done)), H', ⟨by have := HJ4.out; have := HJ13.out; first | omega | exact Nat.le_refl _⟩, ⟨by (with_reducible repeat (first | refine blk_drewN ?_ _ | refine blk_drew ?_ | refine blk_alloc ?_ _)); refine blk_put (cs := #[.string ((rd_T61 l0 a3).f0), .int .i64 ((rd_T61 l0 a3).f1), .int .i64 ((rd_T61 l0 a3).f2), .int .i64 0]) ?_ 3 _ rfl; (with_reducible repeat (first | refine blk_drewN ?_ _ | refine blk_drew ?_ | refine blk_alloc ?_ _)); refine blk_put (cs := #[.string ((rd_T61 l0 a3).f0), .int .i64 ((rd_T61 l0 a3).f1), .int .i64 0, .int .i64 0]) ?_ 2 _ rfl; (with_reducible repeat (first | refine blk_drewN ?_ _ | refine blk_drew ?_ | refine blk_alloc ?_ _)); refine blk_put (cs := #[.string ((rd_T61 l0 a3).f0), .int .i64 0, .int .i64 0, .int .i64 0]) ?_ 1 _ rfl; (with_reducible repeat (first | refine blk_drewN ?_ _ | refine blk_drew ?_ | refine blk_alloc ?_ _)); refine blk_put (cs := #[.string (⟨#[]⟩ : ByteArray), .int .i64 0, .int .i64 0, .int .i64 0]) ?_ 0 _ rfl; (with_reducible repeat (first | refine blk_drewN ?_ _ | refine blk_drew ?_ | refine blk_alloc ?_ _)); exact BK247.out⟩, ⟨by repeat (first | (with_reducible first | exact HB.out | apply below_alloc | apply pw_below_drewN | apply below_drew1 | refine below_set ?_ GE247.out) | exact HB.out)⟩⟩
                      · rw [if_neg c25] at H
                        have c25b0 : decide (((rd_T61 l0 a3).f1) ≤ (a1.size : Int)) = false := decide_eq_false c25
                        clear c25
                        (first | rw [c25b0] | (simp only [i64_w, i32_w]; rw [c25b0]) | skip)
                        have H' := Aside0.mk H
                        clear H
                        have hcz29_0 : w22.cell? ⟨gb247, 0, none⟩ = some (.string (⟨#[]⟩ : ByteArray)) := (blk_cell BK247.out 0).trans rfl
                        have hcz29_1 : w22.cell? ⟨gb247, 1, none⟩ = some (.int .i64 0) := (blk_cell BK247.out 1).trans rfl
                        have hcz29_2 : w22.cell? ⟨gb247, 2, none⟩ = some (.int .i64 0) := (blk_cell BK247.out 2).trans rfl
                        have hcz29_3 : w22.cell? ⟨gb247, 3, none⟩ = some (.int .i64 0) := (blk_cell BK247.out 3).trans rfl
                        have hfz29_0 := blk_frozen BK247.out 0
                        have hfz29_1 := blk_frozen BK247.out 1
                        have hfz29_2 := blk_frozen BK247.out 2
                        have hfz29_3 := blk_frozen BK247.out 3
                        go_wp2
                        go_meet
                        case rel => exact ⟨_, (false), (by first | rfl | (simp; done) | (simp [*]; done)), H', ⟨by have := HJ4.out; have := HJ13.out; first | omega | exact Nat.le_refl _⟩, ⟨by (with_reducible repeat (first | refine blk_drewN ?_ _ | refine blk_drew ?_ | refine blk_alloc ?_ _)); refine blk_put (cs := #[.string ((rd_T61 l0 a3).f0), .int .i64 ((rd_T61 l0 a3).f1), .int .i64 ((rd_T61 l0 a3).f2), .int .i64 0]) ?_ 3 _ rfl; (with_reducible repeat (first | refine blk_drewN ?_ _ | refine blk_drew ?_ | refine blk_alloc ?_ _)); refine blk_put (cs := #[.string ((rd_T61 l0 a3).f0), .int .i64 ((rd_T61 l0 a3).f1), .int .i64 0, .int .i64 0]) ?_ 2 _ rfl; (with_reducible repeat (first | refine blk_drewN ?_ _ | refine blk_drew ?_ | refine blk_alloc ?_ _)); refine blk_put (cs := #[.string ((rd_T61 l0 a3).f0), .int .i64 0, .int .i64 0, .int .i64 0]) ?_ 1 _ rfl; (with_reducible repeat (first | refine blk_drewN ?_ _ | refine blk_drew ?_ | refine blk_alloc ?_ _)); refine blk_put (cs := #[.string (⟨#[]⟩ : ByteArray), .int .i64 0, .int .i64 0, .int .i64 0]) ?_ 0 _ rfl; (with_reducible repeat (first | refine blk_drewN ?_ _ | refine blk_drew ?_ | refine blk_alloc ?_ _)); exact BK247.out⟩, ⟨by repeat (first | (with_reducible first | exact HB.out | apply below_alloc | apply pw_below_drewN | apply below_drew1 | refine below_set ?_ GE247.out) | exact HB.out)⟩⟩
                    · replace c24 := Bool.eq_false_iff.mpr c24
                      subst c24
                      have H1 : (crossbarref08_state.j2 kj13 false (a1.size : Int) ((a1.size : Int) == ((rd_T61 l0 a3).f2)) ((rd_T61 l0 a3).f0) ((rd_T61 l0 a3).f1) ((rd_T61 l0 a3).f2) ((rd_T61 l0 a3).f3)) = some r := by rw [if_neg (show ¬ (false = true) by decide)] at H; exact H
                      clear H
                      have H := H1
                      clear H1
                      have H' := Aside0.mk H
                      clear H
                      have hcz30_0 : w22.cell? ⟨gb247, 0, none⟩ = some (.string (⟨#[]⟩ : ByteArray)) := (blk_cell BK247.out 0).trans rfl
                      have hcz30_1 : w22.cell? ⟨gb247, 1, none⟩ = some (.int .i64 0) := (blk_cell BK247.out 1).trans rfl
                      have hcz30_2 : w22.cell? ⟨gb247, 2, none⟩ = some (.int .i64 0) := (blk_cell BK247.out 2).trans rfl
                      have hcz30_3 : w22.cell? ⟨gb247, 3, none⟩ = some (.int .i64 0) := (blk_cell BK247.out 3).trans rfl
                      have hfz30_0 := blk_frozen BK247.out 0
                      have hfz30_1 := blk_frozen BK247.out 1
                      have hfz30_2 := blk_frozen BK247.out 2
                      have hfz30_3 := blk_frozen BK247.out 3
                      go_wp2
                      go_meet
                      case rel => exact ⟨_, (((a1.size : Int) == ((rd_T61 l0 a3).f2))), (by first | rfl | (simp; done) | (simp [*]; done)), H', ⟨by have := HJ4.out; have := HJ13.out; first | omega | exact Nat.le_refl _⟩, ⟨by (with_reducible repeat (first | refine blk_drewN ?_ _ | refine blk_drew ?_ | refine blk_alloc ?_ _)); refine blk_put (cs := #[.string ((rd_T61 l0 a3).f0), .int .i64 ((rd_T61 l0 a3).f1), .int .i64 ((rd_T61 l0 a3).f2), .int .i64 0]) ?_ 3 _ rfl; (with_reducible repeat (first | refine blk_drewN ?_ _ | refine blk_drew ?_ | refine blk_alloc ?_ _)); refine blk_put (cs := #[.string ((rd_T61 l0 a3).f0), .int .i64 ((rd_T61 l0 a3).f1), .int .i64 0, .int .i64 0]) ?_ 2 _ rfl; (with_reducible repeat (first | refine blk_drewN ?_ _ | refine blk_drew ?_ | refine blk_alloc ?_ _)); refine blk_put (cs := #[.string ((rd_T61 l0 a3).f0), .int .i64 0, .int .i64 0, .int .i64 0]) ?_ 1 _ rfl; (with_reducible repeat (first | refine blk_drewN ?_ _ | refine blk_drew ?_ | refine blk_alloc ?_ _)); refine blk_put (cs := #[.string (⟨#[]⟩ : ByteArray), .int .i64 0, .int .i64 0, .int .i64 0]) ?_ 0 _ rfl; (with_reducible repeat (first | refine blk_drewN ?_ _ | refine blk_drew ?_ | refine blk_alloc ?_ _)); exact BK247.out⟩, ⟨by repeat (first | (with_reducible first | exact HB.out | apply below_alloc | apply pw_below_drewN | apply below_drew1 | refine below_set ?_ GE247.out) | exact HB.out)⟩⟩
                  case rest =>
                    clear HC21
                    try clear c1
                    try clear c2
                    try clear p2
                    try clear q2
                    try clear hx2
                    try clear c6
                    try clear c8
                    try clear c10
                    try clear c10b0
                    try clear c13
                    try clear c15
                    try clear c15b0
                    try clear c16
                    try clear c16b0
                    try clear c17
                    try clear c17b0
                    try clear c18
                    try clear c19
                    try clear c19b0
                    try clear c20
                    try clear c20b0
                    try clear c24
                    try clear p24
                    try clear q24
                    try clear hx24
                    try clear c25
                    try clear c25b0
                    try clear c26
                    try clear c26b0
                    try clear hcz23_0
                    try clear hcz23_1
                    try clear hcz23_2
                    try clear hcz23_3
                    try clear hcz27_0
                    try clear hcz27_1
                    try clear hcz27_2
                    try clear hcz27_3
                    try clear hcz28_0
                    try clear hcz28_1
                    try clear hcz28_2
                    try clear hcz28_3
                    try clear hcz29_0
                    try clear hcz29_1
                    try clear hcz29_2
                    try clear hcz29_3
                    try clear hcz30_0
                    try clear hcz30_1
                    try clear hcz30_2
                    try clear hcz30_3
                    try clear hfz23_0
                    try clear hfz23_1
                    try clear hfz23_2
                    try clear hfz23_3
                    try clear hfz27_0
                    try clear hfz27_1
                    try clear hfz27_2
                    try clear hfz27_3
                    try clear hfz28_0
                    try clear hfz28_1
                    try clear hfz28_2
                    try clear hfz28_3
                    try clear hfz29_0
                    try clear hfz29_1
                    try clear hfz29_2
                    try clear hfz29_3
                    try clear hfz30_0
                    try clear hfz30_1
                    try clear hfz30_2
                    try clear hfz30_3
                    try clear hx245_0
                    try clear hx245_1
                    try clear hx245_2
                    try clear hx245_3
                    try clear hx246_0
                    try clear hx246_1
                    try clear hx246_2
                    try clear hx246_3
                    try clear p2
                    try clear p245
                    try clear p246
                    try clear q2
                    try clear q245
                    try clear q246
                    obtain ⟨kq, x64_20, rfl, HA, HJ20, BK247, HB⟩ := hcut
                    cases kq with
                    | zero => exact absurd HA.out (by simp [crossbarref08_state.j2])
                    | succ kj20 =>
                      have H := HA.out
                      clear HA
                      simp only [crossbarref08_state.j2] at H
                      by_cases c31 : x64_20 = true
                      · subst c31
                        have H1 : (some 2) = some r := by rw [if_pos rfl] at H; exact H
                        clear H
                        have H := H1
                        clear H1
                        obtain rfl := Option.some.inj H
                        go_wp2
                        go_ret
                        exact ⟨by first | rfl | (simp [errW_none, errW_some] <;> rfl) | (simp [*, errW_none, errW_some] <;> rfl), by repeat (first | (with_reducible first | exact HB.out | apply below_alloc | apply pw_below_drewN | apply below_drew1 | refine below_set ?_ GE247.out) | exact HB.out)⟩
                      · replace c31 := Bool.eq_false_iff.mpr c31
                        subst c31
                        have H1 : (if a2 = true then (some 3) else (if (a1.size : Int) < ((rd_T61 l0 a3).f2) then (some 1) else (some 3))) = some r := by rw [if_neg (show ¬ (false = true) by decide)] at H; exact H
                        clear H
                        have H := H1
                        clear H1
                        by_cases c32 : a2 = true
                        · subst c32
                          have H1 : (some 3) = some r := by rw [if_pos rfl] at H; exact H
                          clear H
                          have H := H1
                          clear H1
                          obtain rfl := Option.some.inj H
                          go_wp2
                          go_ret
                          exact ⟨by first | rfl | (simp [errW_none, errW_some] <;> rfl) | (simp [*, errW_none, errW_some] <;> rfl), by repeat (first | (with_reducible first | exact HB.out | apply below_alloc | apply pw_below_drewN | apply below_drew1 | refine below_set ?_ GE247.out) | exact HB.out)⟩
                        · replace c32 := Bool.eq_false_iff.mpr c32
                          subst c32
                          have H1 : (if (a1.size : Int) < ((rd_T61 l0 a3).f2) then (some 1) else (some 3)) = some r := by rw [if_neg (show ¬ (false = true) by decide)] at H; exact H
                          clear H
                          have H := H1
                          clear H1
                          by_cases c33 : (a1.size : Int) < ((rd_T61 l0 a3).f2)
                          · rw [if_pos c33] at H
                            have c33b0 : decide ((a1.size : Int) < ((rd_T61 l0 a3).f2)) = true := decide_eq_true c33
                            clear c33
                            obtain rfl := Option.some.inj H
                            have hcz34_0 : wc.cell? ⟨gb247, 0, none⟩ = some (.string ((rd_T61 l0 a3).f0)) := (blk_cell BK247.out 0).trans rfl
                            have hcz34_1 : wc.cell? ⟨gb247, 1, none⟩ = some (.int .i64 ((rd_T61 l0 a3).f1)) := (blk_cell BK247.out 1).trans rfl
                            have hcz34_2 : wc.cell? ⟨gb247, 2, none⟩ = some (.int .i64 ((rd_T61 l0 a3).f2)) := (blk_cell BK247.out 2).trans rfl
                            have hcz34_3 : wc.cell? ⟨gb247, 3, none⟩ = some (.int .i64 ((rd_T61 l0 a3).f3)) := (blk_cell BK247.out 3).trans rfl
                            have hfz34_0 := blk_frozen BK247.out 0
                            have hfz34_1 := blk_frozen BK247.out 1
                            have hfz34_2 := blk_frozen BK247.out 2
                            have hfz34_3 := blk_frozen BK247.out 3
                            go_wp2
                            go_ret
                            exact ⟨by first | rfl | (simp [errW_none, errW_some] <;> rfl) | (simp [*, errW_none, errW_some] <;> rfl), by repeat (first | (with_reducible first | exact HB.out | apply below_alloc | apply pw_below_drewN | apply below_drew1 | refine below_set ?_ GE247.out) | exact HB.out)⟩
                          · rw [if_neg c33] at H
                            have c33b0 : decide ((a1.size : Int) < ((rd_T61 l0 a3).f2)) = false := decide_eq_false c33
                            clear c33
                            obtain rfl := Option.some.inj H
                            have hcz35_0 : wc.cell? ⟨gb247, 0, none⟩ = some (.string ((rd_T61 l0 a3).f0)) := (blk_cell BK247.out 0).trans rfl
                            have hcz35_1 : wc.cell? ⟨gb247, 1, none⟩ = some (.int .i64 ((rd_T61 l0 a3).f1)) := (blk_cell BK247.out 1).trans rfl
                            have hcz35_2 : wc.cell? ⟨gb247, 2, none⟩ = some (.int .i64 ((rd_T61 l0 a3).f2)) := (blk_cell BK247.out 2).trans rfl
                            have hcz35_3 : wc.cell? ⟨gb247, 3, none⟩ = some (.int .i64 ((rd_T61 l0 a3).f3)) := (blk_cell BK247.out 3).trans rfl
                            have hfz35_0 := blk_frozen BK247.out 0
                            have hfz35_1 := blk_frozen BK247.out 1
                            have hfz35_2 := blk_frozen BK247.out 2
                            have hfz35_3 := blk_frozen BK247.out 3
                            go_wp2
                            go_ret
                            exact ⟨by first | rfl | (simp [errW_none, errW_some] <;> rfl) | (simp [*, errW_none, errW_some] <;> rfl), by repeat (first | (with_reducible first | exact HB.out | apply below_alloc | apply pw_below_drewN | apply below_drew1 | refine below_set ?_ GE247.out) | exact HB.out)⟩
                · rw [if_neg c20] at H
                  exact absurd H (by simp)
              · rw [if_neg c19] at H
                exact absurd H (by simp)
end Go.Proofs.YtmendieiikmbhaaDoor.Fn
