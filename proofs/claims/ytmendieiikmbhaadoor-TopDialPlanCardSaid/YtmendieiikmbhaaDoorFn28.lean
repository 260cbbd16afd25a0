-- printed by a program of this session, out of the translation; Lean checks it
import Derived.Test.YtmendieiikmbhaaDoorFn0
import Derived.Test.YtmendieiikmbhaaDoorFn2
import Derived.Test.YtmendieiikmbhaaDoorFn10
import Derived.Test.YtmendieiikmbhaaDoorFn11
import Derived.Test.YtmendieiikmbhaaDoorFn24
import Derived.Test.YtmendieiikmbhaaDoorEDial
import Derived.Test.YtmendieiikmbhaaDoorEExt
import Derived.Test.YtmendieiikmbhaaDoorELong
namespace Go.Proofs.YtmendieiikmbhaaDoor.Fn
open Go.RowKit Go.Proofs.YtmendieiikmbhaaDoorW.PrintWords Go.Proofs.YtmendieiikmbhaaDoorW.PrintLast Go.Proofs.YtmendieiikmbhaaDoorW.PrintMore
attribute [local go_sem] max2_int min2_int max_two min_two max_three min_three max_four min_four   -- for this text's walks alone
set_option linter.unusedVariables false
set_option linter.unusedSimpArgs false

attribute [local go_sem high] eqA55
/-! ### crossbartop_TopDialPlan: function 8 -/
mutual
noncomputable def crossbartop_TopDialPlan.j0 : Nat → List (S61) → ByteArray → Bool → Option (Bool)
  | 0, _, _, _ => none
  | k + 1, x0, x1, x28 => if x28 = true then (some true) else ((dialplan_Analyze.f k x0 x1 false).bind fun bt532 => (if bt532.2.2 = 0 then ((crossbartop_prefixes.f k x0).bind fun bt536 => ((trie_Longest.f k bt536.1 x1).bind fun bt541 => (if bt536.2 = true then (if (bt541.2.2 != (decide (bt532.2.1 ≥ 0))) = true then (crossbartop_TopDialPlan.j1 k x0 x1 bt541.2.2 true bt532.1 bt532.2.1 bt536.1) else (if bt541.2.2 = true then (if bt541.1 = (wrap64 (bt532.2.1 + 1)) then (if bt532.2.1 ≥ (x0.length : Int) then (crossbartop_TopDialPlan.j1 k x0 x1 bt541.2.2 true bt532.1 bt532.2.1 bt536.1) else (if 0 ≤ bt532.2.1 then (if bt532.2.1 < (x0.length : Int) then (crossbartop_TopDialPlan.j1 k x0 x1 bt541.2.2 (bt541.2.1 != (((rd_T61 x0 bt532.2.1).f0).size : Int)) bt532.1 bt532.2.1 bt536.1) else (none)) else (none))) else (crossbartop_TopDialPlan.j1 k x0 x1 bt541.2.2 true bt532.1 bt532.2.1 bt536.1)) else (crossbartop_TopDialPlan.j1 k x0 x1 bt541.2.2 false bt532.1 bt532.2.1 bt536.1))) else (crossbartop_TopDialPlan.j1 k x0 x1 bt541.2.2 true bt532.1 bt532.2.1 bt536.1)))) else (some (bt532.2.2 == 60))))
noncomputable def crossbartop_TopDialPlan.j1 : Nat → List (S61) → ByteArray → Bool → Bool → Int → Int → List (S71) → Option (Bool)
  | 0, _, _, _, _, _, _, _ => none
  | k + 1, x0, x1, x11, x87, x536000, x536001, x541000 => if x87 = true then (some false) else ((trie_Extends.f k x541000 x1).bind fun t545 => (if t545 = true then (some (x536000 == 1)) else (if x11 = true then (if 0 ≤ x536001 then (if x536001 < (x0.length : Int) then (if ((rd_T61 x0 x536001).f3) = 4 then (some (x536000 == 3)) else (if (x1.size : Int) > ((rd_T61 x0 x536001).f2) then (some (x536000 == 3)) else (if ((x536000 == 1) == (decide ((x1.size : Int) < ((rd_T61 x0 x536001).f2)))) = true then (some ((x536000 == 2) == ((x1.size : Int) == ((rd_T61 x0 x536001).f2)))) else (some false)))) else (none)) else (none)) else (if x536000 = 1 then (if x1.toList = ([] : List UInt8) then (some true) else (if x536000 = 3 then (some (x1.toList != ([] : List UInt8))) else (some false))) else (if x536000 = 3 then (some (x1.toList != ([] : List UInt8))) else (some false))))))
end
noncomputable def crossbartop_TopDialPlan.f (k : Nat) (l0 : List (S61)) (a1 : ByteArray) : Option (Bool) := (trie_New.f).bind fun t527 => ((trie_Check.f k t527).bind fun t530 => (if t530 = 0 then (if (l0.length : Int) > 64 then (crossbartop_TopDialPlan.j0 k l0 a1 true) else (if (a1.size : Int) > 40 then (crossbartop_TopDialPlan.j0 k l0 a1 true) else ((dialplan_Check.f l0).bind fun t531 => (crossbartop_TopDialPlan.j0 k l0 a1 (t531 != 0))))) else (some false)))
theorem crossbartop_TopDialPlan.mono_l : ∀ k, (∀ y0 y1 y2, LeO (crossbartop_TopDialPlan.j0 k y0 y1 y2) (crossbartop_TopDialPlan.j0 (k + 1) y0 y1 y2)) ∧ (∀ y0 y1 y2 y3 y4 y5 y6, LeO (crossbartop_TopDialPlan.j1 k y0 y1 y2 y3 y4 y5 y6) (crossbartop_TopDialPlan.j1 (k + 1) y0 y1 y2 y3 y4 y5 y6))
  | 0 => ⟨fun _ _ _ r h => by simp [crossbartop_TopDialPlan.j0] at h, fun _ _ _ _ _ _ _ r h => by simp [crossbartop_TopDialPlan.j1] at h⟩
  | k + 1 => by
    obtain ⟨ih0, ih1⟩ := crossbartop_TopDialPlan.mono_l k
    refine ⟨?_, ?_⟩
    · intro y0 y1 y2
      unfold crossbartop_TopDialPlan.j0
      repeat' first
      | (with_reducible exact ih0 _ _ _)
      | (with_reducible exact ih1 _ _ _ _ _ _ _)
      | (with_reducible exact crossbartop_prefixes.mono _ _)
      | (with_reducible exact dialplan_Analyze.mono _ _ _ _)
      | (with_reducible exact trie_Check.mono _ _)
      | (with_reducible exact trie_Extends.mono _ _ _)
      | (with_reducible exact trie_Longest.mono _ _ _)
      | (with_reducible exact LeO.refl _)
      | (with_reducible exact LeO.none _)
      | (with_reducible refine LeO.ite ?_ ?_)
      | (with_reducible refine LeO.bind ?_ (fun _ => ?_))
      | exact ih0 _ _ _
      | exact ih1 _ _ _ _ _ _ _
      | exact crossbartop_prefixes.mono _ _
      | exact dialplan_Analyze.mono _ _ _ _
      | exact trie_Check.mono _ _
      | exact trie_Extends.mono _ _ _
      | exact trie_Longest.mono _ _ _
      | exact LeO.none _
      | refine LeO.ite ?_ ?_
      | refine LeO.bind ?_ (fun _ => ?_)
    · intro y0 y1 y2 y3 y4 y5 y6
      unfold crossbartop_TopDialPlan.j1
      repeat' first
      | (with_reducible exact ih0 _ _ _)
      | (with_reducible exact ih1 _ _ _ _ _ _ _)
      | (with_reducible exact crossbartop_prefixes.mono _ _)
      | (with_reducible exact dialplan_Analyze.mono _ _ _ _)
      | (with_reducible exact trie_Check.mono _ _)
      | (with_reducible exact trie_Extends.mono _ _ _)
      | (with_reducible exact trie_Longest.mono _ _ _)
      | (with_reducible exact LeO.refl _)
      | (with_reducible exact LeO.none _)
      | (with_reducible refine LeO.ite ?_ ?_)
      | (with_reducible refine LeO.bind ?_ (fun _ => ?_))
      | exact ih0 _ _ _
      | exact ih1 _ _ _ _ _ _ _
      | exact crossbartop_prefixes.mono _ _
      | exact dialplan_Analyze.mono _ _ _ _
      | exact trie_Check.mono _ _
      | exact trie_Extends.mono _ _ _
      | exact trie_Longest.mono _ _ _
      | exact LeO.none _
      | refine LeO.ite ?_ ?_
      | refine LeO.bind ?_ (fun _ => ?_)
theorem crossbartop_TopDialPlan.mono : ∀ a0 a1 k, LeO (crossbartop_TopDialPlan.f k a0 a1) (crossbartop_TopDialPlan.f (k + 1) a0 a1) := by
  intro a0 a1 k
  obtain ⟨ih0, ih1⟩ := crossbartop_TopDialPlan.mono_l k
  unfold crossbartop_TopDialPlan.f
  repeat' first
      | (with_reducible exact ih0 _ _ _)
      | (with_reducible exact ih1 _ _ _ _ _ _ _)
      | (with_reducible exact crossbartop_prefixes.mono _ _)
      | (with_reducible exact dialplan_Analyze.mono _ _ _ _)
      | (with_reducible exact trie_Check.mono _ _)
      | (with_reducible exact trie_Extends.mono _ _ _)
      | (with_reducible exact trie_Longest.mono _ _ _)
      | (with_reducible exact LeO.refl _)
      | (with_reducible exact LeO.none _)
      | (with_reducible refine LeO.ite ?_ ?_)
      | (with_reducible refine LeO.bind ?_ (fun _ => ?_))
      | exact ih0 _ _ _
      | exact ih1 _ _ _ _ _ _ _
      | exact crossbartop_prefixes.mono _ _
      | exact dialplan_Analyze.mono _ _ _ _
      | exact trie_Check.mono _ _
      | exact trie_Extends.mono _ _ _
      | exact trie_Longest.mono _ _ _
      | exact LeO.none _
      | refine LeO.ite ?_ ?_
      | refine LeO.bind ?_ (fun _ => ?_)
set_option maxHeartbeats 8000000 in
set_option maxRecDepth 100000 in
theorem crossbartop_TopDialPlan.calls (k : Nat) (A0 : Option Addr) (c0 : Nat) (l0 : List (S61)) (a1 : ByteArray) (r : Bool) (ht : r = true) (w : World) (hr0 : Kd.C k61 w A0 l0.length l0) (hc0 : l0.length ≤ c0) (h : crossbartop_TopDialPlan.f k l0 a1 = some r) :
    Calls Tryd.prog 8 #[.slice A0 l0.length c0, .string a1] w fun e w' => e = .returned (.bool r) ∧ Below w.heap.size w w' := by
  have hu55 := Tryd.underlying55
  have hu24 := Tryd.underlying24
  have hu61 := Tryd.underlying61
  have HR0 := Aside0.mk hr0
  have HC0 := Aside0.mk hc0
  clear hr0 hc0
  have HB := Aside0.mk (Below.refl w.heap.size w)
  have H : ((trie_New.f).bind fun t527 => ((trie_Check.f k t527).bind fun t530 => (if t530 = 0 then (if (l0.length : Int) > 64 then (crossbartop_TopDialPlan.j0 k l0 a1 true) else (if (a1.size : Int) > 40 then (crossbartop_TopDialPlan.j0 k l0 a1 true) else ((dialplan_Check.f l0).bind fun t531 => (crossbartop_TopDialPlan.j0 k l0 a1 (t531 != 0))))) else (some false)))) = some r := h
  clear h
  replace H := Option.bind_eq_some_iff.mp H
  obtain ⟨t527, A30, H⟩ := H
  replace H : ((trie_Check.f k t527).bind fun t530 => (if t530 = 0 then (if (l0.length : Int) > 64 then (crossbartop_TopDialPlan.j0 k l0 a1 true) else (if (a1.size : Int) > 40 then (crossbartop_TopDialPlan.j0 k l0 a1 true) else ((dialplan_Check.f l0).bind fun t531 => (crossbartop_TopDialPlan.j0 k l0 a1 (t531 != 0))))) else (some false))) = some r := H
  have A3 := Aside0.mk A30
  clear A30
  replace H := Option.bind_eq_some_iff.mp H
  obtain ⟨t530, A40, H⟩ := H
  replace H : (if t530 = 0 then (if (l0.length : Int) > 64 then (crossbartop_TopDialPlan.j0 k l0 a1 true) else (if (a1.size : Int) > 40 then (crossbartop_TopDialPlan.j0 k l0 a1 true) else ((dialplan_Check.f l0).bind fun t531 => (crossbartop_TopDialPlan.j0 k l0 a1 (t531 != 0))))) else (some false)) = some r := H
  have A4 := Aside0.mk A40
  clear A40
  by_cases c5 : t530 = 0
  · rw [if_pos c5] at H
    have c5b0 : (t530 == 0) = true := beq_iff_eq.mpr c5
    have c5b1 : (t530 != 0) = false := bne_eq_false_iff_eq.mpr c5
    clear c5
    have HC6 := Aside0.mk H
    clear H
    go_enter Tryd.func8, Tryd.ntmps8
    go_upto_region 3 with (first | ((with_reducible refine gate_callee (f := 25) rfl ?_); refine goesL_ (some 13) rfl rfl Tryd.func25 (by kernel_rfl) rfl #[] rfl (by (try simp only [List.map_toArray, List.map_cons, List.map_nil]); first | done | rfl | (simp only [List.length_drop, List.length_take]; rfl)) ?_; (with_reducible refine (trie_New.calls  t527 _ A3.out).mono ?_); rintro e w7 ⟨v528, rfl, ho0, hb⟩; refine ⟨_, rfl, ?_⟩; have n0_ := Aside0.mk (Kd.R_lower ho0 (below_size (by repeat (first | (with_reducible first | exact HB.out | apply below_alloc | apply pw_below_drewN | apply below_drew1) | exact HB.out)))); have n1_ := Aside0.mk (below_step (by repeat (first | (with_reducible first | exact HB.out | apply below_alloc | apply pw_below_drewN | apply below_drew1) | exact HB.out)) hb); clear HB; have HO529 := n0_; have HB := n1_; clear n0_ n1_; (try clear hb); (try clear hb2); (try clear hk); (try clear hi); (try clear ho0); obtain ⟨Ao8, co8, eo8⟩ := Kd.R_slice HO529.out; subst eo8) | ((with_reducible refine gate_callee (f := 24) rfl ?_); refine goesL_ (some 14) rfl rfl Tryd.func24 (by kernel_rfl) rfl #[.agg #[.slice Ao8 t527.length co8]] rfl (by (try simp only [List.map_toArray, List.map_cons, List.map_nil]); first | done | rfl | (simp only [List.length_drop, List.length_take]; rfl)) ?_; (with_reducible refine (trie_Check.calls k _ _ t527 t530 _ ?side1 ?side2 A4.out).mono ?_); (case side1 => repeat (first | exact (Kd.R_reads' HO529.out).2.2 | (with_reducible refine Kd.C_alloc ?_ _) | (with_reducible refine Kd.C_drewN ?_ _) | (with_reducible refine Kd.C_drew ?_))); (case side2 => exact (Kd.R_reads' HO529.out).2.1); rintro e w9 ⟨rfl, hb⟩; refine ⟨_, rfl, ?_⟩; have n0_ := Aside0.mk (Kd.R_below (by (with_reducible repeat (first | apply Kd.R_alloc | apply Kd.R_drewN | apply Kd.R_drew)); exact HO529.out) hb); have n1_ := Aside0.mk (below_step (by repeat (first | (with_reducible first | exact HB.out | apply below_alloc | apply pw_below_drewN | apply below_drew1) | exact HB.out)) hb); clear HO529; clear HB; have HO529 := n0_; have HB := n1_; clear n0_ n1_; (try clear hb); (try clear hb2); (try clear hk); (try clear hi)))
    (try simp only [Act.put, List.setIfInBounds_toArray, List.set_cons_zero, List.set_cons_succ])
    go_cut [28] (fun v28 wc => ∃ (kq : Nat) (x28_5 : Bool), v28 = .bool x28_5 ∧ Aside0 (crossbartop_TopDialPlan.j0 kq l0 a1 x28_5 = some r) ∧ Aside0 (kq ≤ k) ∧ Aside0 (Below w.heap.size w wc))
    case first =>
      have H := HC6.out
      clear HC6
      by_cases c10 : (l0.length : Int) > 64
      · rw [if_pos c10] at H
        have c10b0 : decide (64 < (l0.length : Int)) = true := decide_eq_true c10
        have c10b1 : decide (64 < l0.length) = true := decide_eq_true (by omega)
        clear c10
        (first | rw [c10b0] | (simp only [i64_w, i32_w]; rw [c10b0]) | skip)
        have H' := Aside0.mk H
        clear H
        go_wp2
        go_meet
        case rel => exact ⟨_, (true), (by first | rfl | (simp; done) | (simp [*]; done)), H', ⟨by first | omega | exact Nat.le_refl _⟩, ⟨by repeat (first | (with_reducible first | exact HB.out | apply below_alloc | apply pw_below_drewN | apply below_drew1) | exact HB.out)⟩⟩
      · rw [if_neg c10] at H
        have c10b0 : decide (64 < (l0.length : Int)) = false := decide_eq_false c10
        have c10b1 : decide (64 < l0.length) = false := decide_eq_false (by omega)
        clear c10
        (first | rw [c10b0] | (simp only [i64_w, i32_w]; rw [c10b0]) | skip)
        by_cases c11 : (a1.size : Int) > 40
        · rw [if_pos c11] at H
          have c11b0 : decide (40 < (a1.size : Int)) = true := decide_eq_true c11
          have c11b1 : decide (40 < a1.size) = true := decide_eq_true (by omega)
          clear c11
          have H' := Aside0.mk H
          clear H
          go_wp2
          go_meet
          case rel => exact ⟨_, (true), (by first | rfl | (simp; done) | (simp [*]; done)), H', ⟨by first | omega | exact Nat.le_refl _⟩, ⟨by repeat (first | (with_reducible first | exact HB.out | apply below_alloc | apply pw_below_drewN | apply below_drew1) | exact HB.out)⟩⟩
        · rw [if_neg c11] at H
          have c11b0 : decide (40 < (a1.size : Int)) = false := decide_eq_false c11
          have c11b1 : decide (40 < a1.size) = false := decide_eq_false (by omega)
          clear c11
          replace H := Option.bind_eq_some_iff.mp H
          obtain ⟨t531, A120, H⟩ := H
          replace H : (crossbartop_TopDialPlan.j0 k l0 a1 (t531 != 0)) = some r := H
          have A12 := Aside0.mk A120
          clear A120
          have H' := Aside0.mk H
          clear H
          go_wp2_with (first | (go_at_call 37; (with_reducible refine (dialplan_Check.calls _ _ l0 t531 _ ?side1 ?side2 A12.out).mono ?_); (case side1 => repeat (first | exact (Kd.C_below HR0.out HB.out) | (with_reducible refine Kd.C_alloc ?_ _) | (with_reducible refine Kd.C_drewN ?_ _) | (with_reducible refine Kd.C_drew ?_))); (case side2 => exact HC0.out); rintro e w13 ⟨rfl, hb⟩; have n0_ := Aside0.mk (Kd.R_below (by (with_reducible repeat (first | apply Kd.R_alloc | apply Kd.R_drewN | apply Kd.R_drew)); exact HO529.out) hb); have n1_ := Aside0.mk (below_step (by repeat (first | (with_reducible first | exact HB.out | apply below_alloc | apply pw_below_drewN | apply below_drew1) | exact HB.out)) hb); clear HO529; clear HB; have HO529 := n0_; have HB := n1_; clear n0_ n1_; (try clear hb); (try clear hb2); (try clear hk); (try clear hi)))
          go_meet
          case rel => exact ⟨_, ((t531 != 0)), (by first | rfl | (simp; done) | (simp [*]; done)), H', ⟨by first | omega | exact Nat.le_refl _⟩, ⟨by repeat (first | (with_reducible first | exact HB.out | apply below_alloc | apply pw_below_drewN | apply below_drew1) | exact HB.out)⟩⟩
    case rest =>
      clear HC6
      try clear c1
      try clear c2
      try clear p2
      try clear c5
      try clear c5b0
      try clear c5b1
      try clear c8
      try clear c10
      try clear c10b0
      try clear c10b1
      try clear c11
      try clear c11b0
      try clear c11b1
      obtain ⟨kq, x28_5, rfl, HA, HJ5, HB⟩ := hcut
      cases kq with
      | zero => exact absurd HA.out (by simp [crossbartop_TopDialPlan.j0])
      | succ kj5 =>
        have H := HA.out
        clear HA
        simp only [crossbartop_TopDialPlan.j0] at H
        by_cases c14 : x28_5 = true
        · subst c14
          have H1 : (some true) = some r := by rw [if_pos rfl] at H; exact H
          clear H
          have H := H1
          clear H1
          obtain rfl := Option.some.inj H
          go_wp2
          go_ret
          exact ⟨by first | rfl | (simp [errW_none, errW_some] <;> rfl) | (simp [*, errW_none, errW_some] <;> rfl) | (simp [nil_flag ht]), by repeat (first | (with_reducible first | exact HB.out | apply below_alloc | apply pw_below_drewN | apply below_drew1) | exact HB.out)⟩
        · replace c14 := Bool.eq_false_iff.mpr c14
          subst c14
          have H1 : ((dialplan_Analyze.f kj5 l0 a1 false).bind fun bt532 => (if bt532.2.2 = 0 then ((crossbartop_prefixes.f kj5 l0).bind fun bt536 => ((trie_Longest.f kj5 bt536.1 a1).bind fun bt541 => (if bt536.2 = true then (if (bt541.2.2 != (decide (bt532.2.1 ≥ 0))) = true then (crossbartop_TopDialPlan.j1 kj5 l0 a1 bt541.2.2 true bt532.1 bt532.2.1 bt536.1) else (if bt541.2.2 = true then (if bt541.1 = (wrap64 (bt532.2.1 + 1)) then (if bt532.2.1 ≥ (l0.length : Int) then (crossbartop_TopDialPlan.j1 kj5 l0 a1 bt541.2.2 true bt532.1 bt532.2.1 bt536.1) else (if 0 ≤ bt532.2.1 then (if bt532.2.1 < (l0.length : Int) then (crossbartop_TopDialPlan.j1 kj5 l0 a1 bt541.2.2 (bt541.2.1 != (((rd_T61 l0 bt532.2.1).f0).size : Int)) bt532.1 bt532.2.1 bt536.1) else (none)) else (none))) else (crossbartop_TopDialPlan.j1 kj5 l0 a1 bt541.2.2 true bt532.1 bt532.2.1 bt536.1)) else (crossbartop_TopDialPlan.j1 kj5 l0 a1 bt541.2.2 false bt532.1 bt532.2.1 bt536.1))) else (crossbartop_TopDialPlan.j1 kj5 l0 a1 bt541.2.2 true bt532.1 bt532.2.1 bt536.1)))) else (some (bt532.2.2 == 60)))) = some r := by rw [if_neg (show ¬ (false = true) by decide)] at H; exact H
          clear H
          have H := H1
          clear H1
          replace H := Option.bind_eq_some_iff.mp H
          obtain ⟨⟨t532, t533, t534⟩, A150, H⟩ := H
          replace H : (if t534 = 0 then ((crossbartop_prefixes.f kj5 l0).bind fun bt536 => ((trie_Longest.f kj5 bt536.1 a1).bind fun bt541 => (if bt536.2 = true then (if (bt541.2.2 != (decide (t533 ≥ 0))) = true then (crossbartop_TopDialPlan.j1 kj5 l0 a1 bt541.2.2 true t532 t533 bt536.1) else (if bt541.2.2 = true then (if bt541.1 = (wrap64 (t533 + 1)) then (if t533 ≥ (l0.length : Int) then (crossbartop_TopDialPlan.j1 kj5 l0 a1 bt541.2.2 true t532 t533 bt536.1) else (if 0 ≤ t533 then (if t533 < (l0.length : Int) then (crossbartop_TopDialPlan.j1 kj5 l0 a1 bt541.2.2 (bt541.2.1 != (((rd_T61 l0 t533).f0).size : Int)) t532 t533 bt536.1) else (none)) else (none))) else (crossbartop_TopDialPlan.j1 kj5 l0 a1 bt541.2.2 true t532 t533 bt536.1)) else (crossbartop_TopDialPlan.j1 kj5 l0 a1 bt541.2.2 false t532 t533 bt536.1))) else (crossbartop_TopDialPlan.j1 kj5 l0 a1 bt541.2.2 true t532 t533 bt536.1)))) else (some (t534 == 60))) = some r := H
          have A15 := Aside0.mk A150
          clear A150
          by_cases c16 : t534 = 0
          · rw [if_pos c16] at H
            have c16b0 : (t534 == 0) = true := beq_iff_eq.mpr c16
            have c16b1 : (t534 != 0) = false := bne_eq_false_iff_eq.mpr c16
            clear c16
            replace H := Option.bind_eq_some_iff.mp H
            obtain ⟨⟨t536, t539⟩, A170, H⟩ := H
            replace H : ((trie_Longest.f kj5 t536 a1).bind fun bt541 => (if t539 = true then (if (bt541.2.2 != (decide (t533 ≥ 0))) = true then (crossbartop_TopDialPlan.j1 kj5 l0 a1 bt541.2.2 true t532 t533 t536) else (if bt541.2.2 = true then (if bt541.1 = (wrap64 (t533 + 1)) then (if t533 ≥ (l0.length : Int) then (crossbartop_TopDialPlan.j1 kj5 l0 a1 bt541.2.2 true t532 t533 t536) else (if 0 ≤ t533 then (if t533 < (l0.length : Int) then (crossbartop_TopDialPlan.j1 kj5 l0 a1 bt541.2.2 (bt541.2.1 != (((rd_T61 l0 t533).f0).size : Int)) t532 t533 t536) else (none)) else (none))) else (crossbartop_TopDialPlan.j1 kj5 l0 a1 bt541.2.2 true t532 t533 t536)) else (crossbartop_TopDialPlan.j1 kj5 l0 a1 bt541.2.2 false t532 t533 t536))) else (crossbartop_TopDialPlan.j1 kj5 l0 a1 bt541.2.2 true t532 t533 t536))) = some r := H
            have A17 := Aside0.mk A170
            clear A170
            replace H := Option.bind_eq_some_iff.mp H
            obtain ⟨⟨t541, t542, t543⟩, A180, H⟩ := H
            replace H : (if t539 = true then (if (t543 != (decide (t533 ≥ 0))) = true then (crossbartop_TopDialPlan.j1 kj5 l0 a1 t543 true t532 t533 t536) else (if t543 = true then (if t541 = (wrap64 (t533 + 1)) then (if t533 ≥ (l0.length : Int) then (crossbartop_TopDialPlan.j1 kj5 l0 a1 t543 true t532 t533 t536) else (if 0 ≤ t533 then (if t533 < (l0.length : Int) then (crossbartop_TopDialPlan.j1 kj5 l0 a1 t543 (t542 != (((rd_T61 l0 t533).f0).size : Int)) t532 t533 t536) else (none)) else (none))) else (crossbartop_TopDialPlan.j1 kj5 l0 a1 t543 true t532 t533 t536)) else (crossbartop_TopDialPlan.j1 kj5 l0 a1 t543 false t532 t533 t536))) else (crossbartop_TopDialPlan.j1 kj5 l0 a1 t543 true t532 t533 t536)) = some r := H
            have A18 := Aside0.mk A180
            clear A180
            have HC19 := Aside0.mk H
            clear H
            go_upto_region 10 with (first | ((with_reducible refine gate_callee (f := 38) rfl ?_); refine goesL_ (some 32) rfl rfl Tryd.func38 (by kernel_rfl) rfl #[.slice A0 l0.length c0, .string a1, .bool false] rfl (by (try simp only [List.map_toArray, List.map_cons, List.map_nil]); first | done | rfl | (simp only [List.length_drop, List.length_take]; rfl)) ?_; (with_reducible refine (dialplan_Analyze.calls kj5 _ _ l0 a1 false t532 t533 t534 _ ?side1 ?side2 A15.out).mono ?_); (case side1 => repeat (first | exact (Kd.C_below HR0.out HB.out) | (with_reducible refine Kd.C_alloc ?_ _) | (with_reducible refine Kd.C_drewN ?_ _) | (with_reducible refine Kd.C_drew ?_))); (case side2 => exact HC0.out); rintro e w20 ⟨rfl, hb⟩; refine ⟨_, rfl, ?_⟩; have n0_ := Aside0.mk (below_step (by repeat (first | (with_reducible first | exact HB.out | apply below_alloc | apply pw_below_drewN | apply below_drew1) | exact HB.out)) hb); clear HB; have HB := n0_; clear n0_; (try clear hb); (try clear hb2); (try clear hk); (try clear hi)) | ((with_reducible refine gate_dst (N := 5) rfl ?_); (try (refine gate_guard (by rfl) ?_; dsimp only)); refine box_event ?hg (N := 5) ?hd (cs := #[.int .i64 0, .int .i64 0]) (t := 55) ?hr ?_; (case hd => rfl); (case hg => rfl); (case hr => first | (go_simp; done) | (go_simp; rfl)); intro gb535 hg w21 hbox hb; have n0_ := Aside0.mk (below_step (by repeat (first | (with_reducible first | exact HB.out | apply below_alloc | apply pw_below_drewN | apply below_drew1) | exact HB.out)) hb); have n1_ := Aside0.mk (hbox); have n2_ := Aside0.mk ((by rw [hg]; exact (below_size (by repeat (first | (with_reducible first | exact HB.out | apply below_alloc | apply pw_below_drewN | apply below_drew1) | exact HB.out))) : w.heap.size ≤ gb535)); have n3_ := Aside0.mk ((by rw [hg]; exact (below_size (by repeat (first | (with_reducible first | exact HB.out | apply below_alloc | apply pw_below_drewN | apply below_drew1) | exact HB.out))) : w.heap.size ≤ gb535)); clear HB; have HB := n0_; have BK535 := n1_; have GW535 := n2_; have GE535 := n3_; clear n0_ n1_ n2_ n3_; clear hb hbox hg; have hcz22_0 : w21.cell? ⟨gb535, 0, none⟩ = some (.int .i64 0) := (blk_cell BK535.out 0).trans rfl; have hcz22_1 : w21.cell? ⟨gb535, 1, none⟩ = some (.int .i64 0) := (blk_cell BK535.out 1).trans rfl; have hfz22_0 := blk_frozen BK535.out 0; have hfz22_1 := blk_frozen BK535.out 1) | ((with_reducible refine gate_callee (f := 39) rfl ?_); refine goesL_ (some 41) rfl rfl Tryd.func39 (by kernel_rfl) rfl #[.slice A0 l0.length c0] rfl (by (try simp only [List.map_toArray, List.map_cons, List.map_nil]); first | done | rfl | (simp only [List.length_drop, List.length_take]; rfl)) ?_; (with_reducible refine (crossbartop_prefixes.calls kj5 _ _ l0 t536 t539 _ ?side1 ?side2 A17.out).mono ?_); (case side1 => exact Kd.C_below HR0.out (by repeat (first | (with_reducible first | exact HB.out | apply below_alloc | apply pw_below_drewN | apply below_drew1 | refine below_set ?_ GE535.out) | exact HB.out))); (case side2 => exact HC0.out); rintro e w23 ⟨v537, rfl, ho0, hb⟩; refine ⟨_, rfl, ?_⟩; have n0_ := Aside0.mk (Kd.R_lower ho0 (below_size (by repeat (first | (with_reducible first | exact HB.out | apply below_alloc | apply pw_below_drewN | apply below_drew1 | refine below_set ?_ GE535.out) | exact HB.out)))); have n1_ := Aside0.mk (blk_below (g := gb535) (o := .cells #[.int .i64 t532, .int .i64 t533] 55 (0, 0)) (by (with_reducible repeat (first | refine blk_drewN ?_ _ | refine blk_drew ?_ | refine blk_alloc ?_ _)); refine blk_put (cs := #[.int .i64 t532, .int .i64 0]) ?_ 1 _ rfl; (with_reducible repeat (first | refine blk_drewN ?_ _ | refine blk_drew ?_ | refine blk_alloc ?_ _)); refine blk_put (cs := #[.int .i64 0, .int .i64 0]) ?_ 0 _ rfl; (with_reducible repeat (first | refine blk_drewN ?_ _ | refine blk_drew ?_ | refine blk_alloc ?_ _)); exact BK535.out) hb); have n2_ := Aside0.mk (below_step (by repeat (first | (with_reducible first | exact HB.out | apply below_alloc | apply pw_below_drewN | apply below_drew1 | refine below_set ?_ GE535.out) | exact HB.out)) hb); clear BK535; clear HB; have HO538 := n0_; have BK535 := n1_; have HB := n2_; clear n0_ n1_ n2_; (try clear hb); (try clear hb2); (try clear hk); (try clear hi); (try clear ho0)) | ((with_reducible refine gate_dst (N := 7) rfl ?_); (try (refine gate_guard (by rfl) ?_; dsimp only)); refine box_event ?hg (N := 7) ?hd (cs := #[.slice none 0 0]) (t := 24) ?hr ?_; (case hd => rfl); (case hg => rfl); (case hr => first | (go_simp; done) | (go_simp; rfl)); intro gb540 hg w24 hbox hb; have n0_ := Aside0.mk (Kd.R_below (by (with_reducible repeat (first | apply Kd.R_alloc | apply Kd.R_drewN | apply Kd.R_drew)); exact HO538.out) hb); have n1_ := Aside0.mk (blk_below (g := gb535) (o := .cells #[.int .i64 t532, .int .i64 t533] 55 (0, 0)) (by (with_reducible repeat (first | refine blk_drewN ?_ _ | refine blk_drew ?_ | refine blk_alloc ?_ _)); exact BK535.out) hb); have n2_ := Aside0.mk (below_step (by repeat (first | (with_reducible first | exact HB.out | apply below_alloc | apply pw_below_drewN | apply below_drew1 | refine below_set ?_ GE535.out) | exact HB.out)) hb); have n3_ := Aside0.mk (hbox); have n4_ := Aside0.mk ((by rw [hg]; exact (below_size (by repeat (first | (with_reducible first | exact HB.out | apply below_alloc | apply pw_below_drewN | apply below_drew1 | refine below_set ?_ GE535.out) | exact HB.out))) : w.heap.size ≤ gb540)); have n5_ := Aside0.mk ((by rw [hg]; exact (below_size (by repeat (first | (with_reducible first | exact HB.out | apply below_alloc | apply pw_below_drewN | apply below_drew1 | refine below_set ?_ GE535.out) | exact HB.out))) : w.heap.size ≤ gb540)); have n6_ := Aside0.mk ((by rw [hg]; exact Nat.ne_of_lt (blk_lt (g := gb535) (o := .cells #[.int .i64 t532, .int .i64 t533] 55 (0, 0)) (by (with_reducible repeat (first | refine blk_drewN ?_ _ | refine blk_drew ?_ | refine blk_alloc ?_ _)); exact BK535.out)) : gb535 ≠ gb540)); have n7_ := Aside0.mk ((by rw [hg]; exact Nat.ne_of_gt (blk_lt (g := gb535) (o := .cells #[.int .i64 t532, .int .i64 t533] 55 (0, 0)) (by (with_reducible repeat (first | refine blk_drewN ?_ _ | refine blk_drew ?_ | refine blk_alloc ?_ _)); exact BK535.out)) : gb540 ≠ gb535)); clear HO538; clear BK535; clear HB; have HO538 := n0_; have BK535 := n1_; have HB := n2_; have BK540 := n3_; have GW540 := n4_; have GE540 := n5_; have NB535_540 := n6_; have NB540_535 := n7_; clear n0_ n1_ n2_ n3_ n4_ n5_ n6_ n7_; clear hb hbox hg; obtain ⟨Ao25, co25, eo25⟩ := Kd.R_slice HO538.out; subst eo25; have hnb26 := NB540_535.out; have hnc26 := NB535_540.out; have hcz27_0 : w24.cell? ⟨gb540, 0, none⟩ = some (.slice none 0 0) := (blk_cell BK540.out 0).trans rfl; have hfz27_0 := blk_frozen BK540.out 0) | ((with_reducible refine gate_callee (f := 17) rfl ?_); refine goesL_ (some 47) rfl rfl Tryd.func17 (by kernel_rfl) rfl #[.agg #[.slice Ao25 t536.length co25], .string a1] rfl (by (try simp only [List.map_toArray, List.map_cons, List.map_nil]); first | done | rfl | (simp only [List.length_drop, List.length_take]; rfl)) ?_; (with_reducible refine (trie_Longest.calls kj5 _ _ t536 a1 t541 t542 t543 _ ?side1 ?side2 A18.out).mono ?_); (case side1 => refine (Kd.R_reads' (e := 71) (base := w.heap.size) (ok := fun k_ => True) (n := t536.length) (c := co25) ?_).2.2; exact (by (with_reducible repeat (first | apply Kd.R_alloc | apply Kd.R_drewN | apply Kd.R_drew)); exact (Kd.R_mono (Kd.R_far (p := ⟨gb540, 0, none⟩) (Kd.R_types HO538.out BK540.out (by decide)) (fun _ hk => hk.2) (.slice Ao25 t536.length co25)) (fun _ h_ => h_.1)))); (case side2 => exact (Kd.R_reads' HO538.out).2.1); rintro e w28 ⟨rfl, hb⟩; refine ⟨_, rfl, ?_⟩; have n0_ := Aside0.mk (Kd.R_below (by (with_reducible repeat (first | apply Kd.R_alloc | apply Kd.R_drewN | apply Kd.R_drew)); exact (Kd.R_mono (Kd.R_far (p := ⟨gb540, 0, none⟩) (Kd.R_types HO538.out BK540.out (by decide)) (fun _ hk => hk.2) (.slice Ao25 t536.length co25)) (fun _ h_ => h_.1))) hb); have n1_ := Aside0.mk (blk_below (g := gb535) (o := .cells #[.int .i64 t532, .int .i64 t533] 55 (0, 0)) (by (with_reducible repeat (first | refine blk_drewN ?_ _ | refine blk_drew ?_ | refine blk_alloc ?_ _)); refine blk_far ?_ NB535_540.out _; (with_reducible repeat (first | refine blk_drewN ?_ _ | refine blk_drew ?_ | refine blk_alloc ?_ _)); exact BK535.out) hb); have n2_ := Aside0.mk (blk_below (g := gb540) (o := .cells #[.slice Ao25 t536.length co25] 24 (0, 0)) (by (with_reducible repeat (first | refine blk_drewN ?_ _ | refine blk_drew ?_ | refine blk_alloc ?_ _)); refine blk_put (cs := #[.slice none 0 0]) ?_ 0 _ rfl; (with_reducible repeat (first | refine blk_drewN ?_ _ | refine blk_drew ?_ | refine blk_alloc ?_ _)); exact BK540.out) hb); have n3_ := Aside0.mk (below_step (by repeat (first | (with_reducible first | exact HB.out | apply below_alloc | apply pw_below_drewN | apply below_drew1 | refine below_set ?_ GE535.out | refine below_set ?_ GE540.out) | exact HB.out)) hb); clear HO538; clear BK535; clear BK540; clear HB; have HO538 := n0_; have BK535 := n1_; have BK540 := n2_; have HB := n3_; clear n0_ n1_ n2_ n3_; (try clear hb); (try clear hb2); (try clear hk); (try clear hi)))
            (try simp only [Act.put, List.setIfInBounds_toArray, List.set_cons_zero, List.set_cons_succ])
            go_cut [87] (fun v87 wc => ∃ (kq : Nat) (x87_18 : Bool), v87 = .bool x87_18 ∧ Aside0 (crossbartop_TopDialPlan.j1 kq l0 a1 t543 x87_18 t532 t533 t536 = some r) ∧ Aside0 (kq ≤ kj5) ∧ Aside0 (Kd.R k71 71 wc w.heap.size (fun _ => True) (.slice Ao25 t536.length co25) t536) ∧ Aside0 (wc.heap[gb535]? = some (.cells #[.int .i64 t532, .int .i64 t533] 55 (0, 0))) ∧ Aside0 (wc.heap[gb540]? = some (.cells #[(.slice Ao25 t536.length co25)] 24 (0, 0))) ∧ Aside0 (Below w.heap.size w wc))
            case first =>
              have H := HC19.out
              clear HC19
              by_cases c29 : t539 = true
              · subst c29
                have H1 : (if (t543 != (decide (t533 ≥ 0))) = true then (crossbartop_TopDialPlan.j1 kj5 l0 a1 t543 true t532 t533 t536) else (if t543 = true then (if t541 = (wrap64 (t533 + 1)) then (if t533 ≥ (l0.length : Int) then (crossbartop_TopDialPlan.j1 kj5 l0 a1 t543 true t532 t533 t536) else (if 0 ≤ t533 then (if t533 < (l0.length : Int) then (crossbartop_TopDialPlan.j1 kj5 l0 a1 t543 (t542 != (((rd_T61 l0 t533).f0).size : Int)) t532 t533 t536) else (none)) else (none))) else (crossbartop_TopDialPlan.j1 kj5 l0 a1 t543 true t532 t533 t536)) else (crossbartop_TopDialPlan.j1 kj5 l0 a1 t543 false t532 t533 t536))) = some r := by rw [if_pos rfl] at H; exact H
                clear H
                have H := H1
                clear H1
                by_cases c30 : (t543 != (decide (t533 ≥ 0))) = true
                · rw [if_pos c30] at H
                  have c30b0 : (t543 != (decide (t533 ≥ 0))) = true := c30
                  (try (have c30b1 : decide (t543 = (decide (t533 ≥ 0))) = false := by simpa using c30))
                  (try (have c30b2 : (t543 == (decide (t533 ≥ 0))) = false := by simpa using c30))
                  (try (have c30b3 : ¬ (t543 = (decide (t533 ≥ 0))) := by simpa using c30))
                  clear c30
                  (first | rw [c30b0] | (simp only [i64_w, i32_w]; rw [c30b0]) | skip)
                  have H' := Aside0.mk H
                  clear H
                  have hnb31 := NB535_540.out
                  have hnc31 := NB540_535.out
                  have hcz32_0 : w28.cell? ⟨gb535, 0, none⟩ = some (.int .i64 t532) := (blk_cell BK535.out 0).trans rfl
                  have hcz32_1 : w28.cell? ⟨gb535, 1, none⟩ = some (.int .i64 t533) := (blk_cell BK535.out 1).trans rfl
                  have hfz32_0 := blk_frozen BK535.out 0
                  have hfz32_1 := blk_frozen BK535.out 1
                  go_wp2
                  go_meet
                  case rel => exact ⟨_, (true), (by first | rfl | (simp; done) | (simp [*]; done)), H', ⟨by have := HJ5.out; first | omega | exact Nat.le_refl _⟩, ⟨by (with_reducible repeat (first | apply Kd.R_alloc | apply Kd.R_drewN | apply Kd.R_drew)); exact HO538.out⟩, ⟨by (with_reducible repeat (first | refine blk_drewN ?_ _ | refine blk_drew ?_ | refine blk_alloc ?_ _)); exact BK535.out⟩, ⟨by (with_reducible repeat (first | refine blk_drewN ?_ _ | refine blk_drew ?_ | refine blk_alloc ?_ _)); exact BK540.out⟩, ⟨by repeat (first | (with_reducible first | exact HB.out | apply below_alloc | apply pw_below_drewN | apply below_drew1 | refine below_set ?_ GE535.out | refine below_set ?_ GE540.out) | exact HB.out)⟩⟩
                · rw [if_neg c30] at H
                  have c30b0 : (t543 != (decide (t533 ≥ 0))) = false := by simpa using c30
                  (try (have c30b1 : decide (t543 = (decide (t533 ≥ 0))) = true := by simpa using c30))
                  (try (have c30b2 : (t543 == (decide (t533 ≥ 0))) = true := by simpa using c30))
                  clear c30
                  (first | rw [c30b0] | (simp only [i64_w, i32_w]; rw [c30b0]) | skip)
                  by_cases c33 : t543 = true
                  · subst c33
                    have H1 : (if t541 = (wrap64 (t533 + 1)) then (if t533 ≥ (l0.length : Int) then (crossbartop_TopDialPlan.j1 kj5 l0 a1 true true t532 t533 t536) else (if 0 ≤ t533 then (if t533 < (l0.length : Int) then (crossbartop_TopDialPlan.j1 kj5 l0 a1 true (t542 != (((rd_T61 l0 t533).f0).size : Int)) t532 t533 t536) else (none)) else (none))) else (crossbartop_TopDialPlan.j1 kj5 l0 a1 true true t532 t533 t536)) = some r := by rw [if_pos rfl] at H; exact H
                    clear H
                    have H := H1
                    clear H1
                    by_cases c34 : t541 = (wrap64 (t533 + 1))
                    · rw [if_pos c34] at H
                      have c34b0 : (t541 == (wrap64 (t533 + 1))) = true := beq_iff_eq.mpr c34
                      have c34b1 : (t541 != (wrap64 (t533 + 1))) = false := bne_eq_false_iff_eq.mpr c34
                      clear c34
                      by_cases c35 : t533 ≥ (l0.length : Int)
                      · rw [if_pos c35] at H
                        have c35b0 : decide ((l0.length : Int) ≤ t533) = true := decide_eq_true c35
                        clear c35
                        have H' := Aside0.mk H
                        clear H
                        have hnb36 := NB535_540.out
                        have hnc36 := NB540_535.out
                        have hcz37_0 : w28.cell? ⟨gb535, 0, none⟩ = some (.int .i64 t532) := (blk_cell BK535.out 0).trans rfl
                        have hcz37_1 : w28.cell? ⟨gb535, 1, none⟩ = some (.int .i64 t533) := (blk_cell BK535.out 1).trans rfl
                        have hfz37_0 := blk_frozen BK535.out 0
                        have hfz37_1 := blk_frozen BK535.out 1
                        go_wp2
                        go_meet
                        case rel => exact ⟨_, (true), (by first | rfl | (simp; done) | (simp [*]; done)), H', ⟨by have := HJ5.out; first | omega | exact Nat.le_refl _⟩, ⟨by (with_reducible repeat (first | apply Kd.R_alloc | apply Kd.R_drewN | apply Kd.R_drew)); exact HO538.out⟩, ⟨by (with_reducible repeat (first | refine blk_drewN ?_ _ | refine blk_drew ?_ | refine blk_alloc ?_ _)); exact BK535.out⟩, ⟨by (with_reducible repeat (first | refine blk_drewN ?_ _ | refine blk_drew ?_ | refine blk_alloc ?_ _)); exact BK540.out⟩, ⟨by repeat (first | (with_reducible first | exact HB.out | apply below_alloc | apply pw_below_drewN | apply below_drew1 | refine below_set ?_ GE535.out | refine below_set ?_ GE540.out) | exact HB.out)⟩⟩
                      · rw [if_neg c35] at H
                        have c35b0 : decide ((l0.length : Int) ≤ t533) = false := decide_eq_false c35
                        clear c35
                        by_cases c38 : 0 ≤ t533
                        · rw [if_pos c38] at H
                          have c38b0 : decide (0 ≤ t533) = true := decide_eq_true c38
                          clear c38
                          by_cases c39 : t533 < (l0.length : Int)
                          · rw [if_pos c39] at H
                            have c39b0 : decide (t533 < (l0.length : Int)) = true := decide_eq_true c39
                            clear c39
                            have H' := Aside0.mk H
                            clear H
                            have hnb40 := NB535_540.out
                            have hnc40 := NB540_535.out
                            have hcz41_0 : w28.cell? ⟨gb535, 0, none⟩ = some (.int .i64 t532) := (blk_cell BK535.out 0).trans rfl
                            have hcz41_1 : w28.cell? ⟨gb535, 1, none⟩ = some (.int .i64 t533) := (blk_cell BK535.out 1).trans rfl
                            have hfz41_0 := blk_frozen BK535.out 0
                            have hfz41_1 := blk_frozen BK535.out 1
                            have p544 : 0 ≤ (t533 : Int) := of_decide_eq_true (by first | (with_reducible assumption) | assumption)
                            have q544 : t533 < (l0.length : Int) := of_decide_eq_true (by first | (with_reducible assumption) | assumption)
                            obtain ⟨ad544, e544, hx544_0, hx544_1, hx544_2, hx544_3⟩ := at_T61 HR0.out t533 p544 q544
                            cases e544
                            replace hx544_0 := (HB.out.cell (World.block_lt_of_cell? w _ hx544_0)).trans hx544_0
                            replace hx544_1 := (HB.out.cell (World.block_lt_of_cell? w _ hx544_1)).trans hx544_1
                            replace hx544_2 := (HB.out.cell (World.block_lt_of_cell? w _ hx544_2)).trans hx544_2
                            replace hx544_3 := (HB.out.cell (World.block_lt_of_cell? w _ hx544_3)).trans hx544_3
                            replace p544 := eq_true p544
                            replace q544 := eq_true q544
                            go_wp2
                            go_meet
                            case rel => exact ⟨_, ((t542 != (((rd_T61 l0 t533).f0).size : Int))), (by first | rfl | (simp; done) | (simp [*]; done)), H', ⟨by have := HJ5.out; first | omega | exact Nat.le_refl _⟩, ⟨by (with_reducible repeat (first | apply Kd.R_alloc | apply Kd.R_drewN | apply Kd.R_drew)); exact HO538.out⟩, ⟨by (with_reducible repeat (first | refine blk_drewN ?_ _ | refine blk_drew ?_ | refine blk_alloc ?_ _)); exact BK535.out⟩, ⟨by (with_reducible repeat (first | refine blk_drewN ?_ _ | refine blk_drew ?_ | refine blk_alloc ?_ _)); exact BK540.out⟩, ⟨by repeat (first | (with_reducible first | exact HB.out | apply below_alloc | apply pw_below_drewN | apply below_drew1 | refine below_set ?_ GE535.out | refine below_set ?_ GE540.out) | exact HB.out)⟩⟩
                          · rw [if_neg c39] at H
                            exact absurd H (by simp)
                        · rw [if_neg c38] at H
                          exact absurd H (by simp)
                    · rw [if_neg c34] at H
                      have c34b0 : (t541 == (wrap64 (t533 + 1))) = false := beq_eq_false_iff_ne.mpr c34
                      have c34b1 : (t541 != (wrap64 (t533 + 1))) = true := bne_iff_ne.mpr c34
                      have H' := Aside0.mk H
                      clear H
                      have hnb42 := NB535_540.out
                      have hnc42 := NB540_535.out
                      have hcz43_0 : w28.cell? ⟨gb535, 0, none⟩ = some (.int .i64 t532) := (blk_cell BK535.out 0).trans rfl
                      have hcz43_1 : w28.cell? ⟨gb535, 1, none⟩ = some (.int .i64 t533) := (blk_cell BK535.out 1).trans rfl
                      have hfz43_0 := blk_frozen BK535.out 0
                      have hfz43_1 := blk_frozen BK535.out 1
                      go_wp2
                      go_meet
                      case rel => exact ⟨_, (true), (by first | rfl | (simp; done) | (simp [*]; done)), H', ⟨by have := HJ5.out; first | omega | exact Nat.le_refl _⟩, ⟨by (with_reducible repeat (first | apply Kd.R_alloc | apply Kd.R_drewN | apply Kd.R_drew)); exact HO538.out⟩, ⟨by (with_reducible repeat (first | refine blk_drewN ?_ _ | refine blk_drew ?_ | refine blk_alloc ?_ _)); exact BK535.out⟩, ⟨by (with_reducible repeat (first | refine blk_drewN ?_ _ | refine blk_drew ?_ | refine blk_alloc ?_ _)); exact BK540.out⟩, ⟨by repeat (first | (with_reducible first | exact HB.out | apply below_alloc | apply pw_below_drewN | apply below_drew1 | refine below_set ?_ GE535.out | refine below_set ?_ GE540.out) | exact HB.out)⟩⟩
                  · replace c33 := Bool.eq_false_iff.mpr c33
                    subst c33
                    have H1 : (crossbartop_TopDialPlan.j1 kj5 l0 a1 false false t532 t533 t536) = some r := by rw [if_neg (show ¬ (false = true) by decide)] at H; exact H
                    clear H
                    have H := H1
                    clear H1
                    have H' := Aside0.mk H
                    clear H
                    have hnb44 := NB535_540.out
                    have hnc44 := NB540_535.out
                    have hcz45_0 : w28.cell? ⟨gb535, 0, none⟩ = some (.int .i64 t532) := (blk_cell BK535.out 0).trans rfl
                    have hcz45_1 : w28.cell? ⟨gb535, 1, none⟩ = some (.int .i64 t533) := (blk_cell BK535.out 1).trans rfl
                    have hfz45_0 := blk_frozen BK535.out 0
                    have hfz45_1 := blk_frozen BK535.out 1
                    go_wp2
                    go_meet
                    case rel => exact ⟨_, (false), (by first | rfl | (simp; done) | (simp [*]; done)), H', ⟨by have := HJ5.out; first | omega | exact Nat.le_refl _⟩, ⟨by (with_reducible repeat (first | apply Kd.R_alloc | apply Kd.R_drewN | apply Kd.R_drew)); exact HO538.out⟩, ⟨by (with_reducible repeat (first | refine blk_drewN ?_ _ | refine blk_drew ?_ | refine blk_alloc ?_ _)); exact BK535.out⟩, ⟨by (with_reducible repeat (first | refine blk_drewN ?_ _ | refine blk_drew ?_ | refine blk_alloc ?_ _)); exact BK540.out⟩, ⟨by repeat (first | (with_reducible first | exact HB.out | apply below_alloc | apply pw_below_drewN | apply below_drew1 | refine below_set ?_ GE535.out | refine below_set ?_ GE540.out) | exact HB.out)⟩⟩
              · replace c29 := Bool.eq_false_iff.mpr c29
                subst c29
                have H1 : (crossbartop_TopDialPlan.j1 kj5 l0 a1 t543 true t532 t533 t536) = some r := by rw [if_neg (show ¬ (false = true) by decide)] at H; exact H
                clear H
                have H := H1
                clear H1
                have H' := Aside0.mk H
                clear H
                go_wp2
                go_meet
                case rel => exact ⟨_, (true), (by first | rfl | (simp; done) | (simp [*]; done)), H', ⟨by have := HJ5.out; first | omega | exact Nat.le_refl _⟩, ⟨by (with_reducible repeat (first | apply Kd.R_alloc | apply Kd.R_drewN | apply Kd.R_drew)); exact HO538.out⟩, ⟨by (with_reducible repeat (first | refine blk_drewN ?_ _ | refine blk_drew ?_ | refine blk_alloc ?_ _)); exact BK535.out⟩, ⟨by (with_reducible repeat (first | refine blk_drewN ?_ _ | refine blk_drew ?_ | refine blk_alloc ?_ _)); exact BK540.out⟩, ⟨by repeat (first | (with_reducible first | exact HB.out | apply below_alloc | apply pw_below_drewN | apply below_drew1 | refine below_set ?_ GE535.out | refine below_set ?_ GE540.out) | exact HB.out)⟩⟩
            case rest =>
              clear HC19
              try clear c1
              try clear c2
              try clear p2
              try clear c3
              try clear c4
              try clear c5
              try clear c5b0
              try clear c5b1
              try clear p5
              try clear q5
              try clear hx5
              try clear p6
              try clear c8
              try clear c10
              try clear c10b0
              try clear c10b1
              try clear c11
              try clear c11b0
              try clear c11b1
              try clear c14
              try clear c16
              try clear c16b0
              try clear c16b1
              try clear c17
              try clear c24
              try clear c25
              try clear c26
              try clear c29
              try clear c30
              try clear c30b0
              try clear c30b1
              try clear c30b2
              try clear c31
              try clear c33
              try clear c34
              try clear c34b0
              try clear c34b1
              try clear c35
              try clear c35b0
              try clear c36
              try clear c38
              try clear c38b0
              try clear c39
              try clear c39b0
              try clear c40
              try clear c42
              try clear c44
              try clear hcz22_0
              try clear hcz22_1
              try clear hcz27_0
              try clear hcz32_0
              try clear hcz32_1
              try clear hcz37_0
              try clear hcz37_1
              try clear hcz41_0
              try clear hcz41_1
              try clear hcz43_0
              try clear hcz43_1
              try clear hcz45_0
              try clear hcz45_1
              try clear hfz22_0
              try clear hfz22_1
              try clear hfz27_0
              try clear hfz32_0
              try clear hfz32_1
              try clear hfz37_0
              try clear hfz37_1
              try clear hfz41_0
              try clear hfz41_1
              try clear hfz43_0
              try clear hfz43_1
              try clear hfz45_0
              try clear hfz45_1
              try clear hx544_0
              try clear hx544_1
              try clear hx544_2
              try clear hx544_3
              try clear p2
              try clear p544
              try clear q544
              obtain ⟨kq, x87_18, rfl, HA, HJ18, HO_541000, BK535, BK540, HB⟩ := hcut
              cases kq with
              | zero => exact absurd HA.out (by simp [crossbartop_TopDialPlan.j1])
              | succ kj18 =>
                have H := HA.out
                clear HA
                simp only [crossbartop_TopDialPlan.j1] at H
                by_cases c46 : x87_18 = true
                · subst c46
                  have H1 : (some false) = some r := by rw [if_pos rfl] at H; exact H
                  clear H
                  have H := H1
                  clear H1
                  exact absurd ((Option.some.inj H).trans ht) (by decide)
                · replace c46 := Bool.eq_false_iff.mpr c46
                  subst c46
                  have H1 : ((trie_Extends.f kj18 t536 a1).bind fun t545 => (if t545 = true then (some (t532 == 1)) else (if t543 = true then (if 0 ≤ t533 then (if t533 < (l0.length : Int) then (if ((rd_T61 l0 t533).f3) = 4 then (some (t532 == 3)) else (if (a1.size : Int) > ((rd_T61 l0 t533).f2) then (some (t532 == 3)) else (if ((t532 == 1) == (decide ((a1.size : Int) < ((rd_T61 l0 t533).f2)))) = true then (some ((t532 == 2) == ((a1.size : Int) == ((rd_T61 l0 t533).f2)))) else (some false)))) else (none)) else (none)) else (if t532 = 1 then (if a1.toList = ([] : List UInt8) then (some true) else (if t532 = 3 then (some (a1.toList != ([] : List UInt8))) else (some false))) else (if t532 = 3 then (some (a1.toList != ([] : List UInt8))) else (some false)))))) = some r := by rw [if_neg (show ¬ (false = true) by decide)] at H; exact H
                  clear H
                  have H := H1
                  clear H1
                  replace H := Option.bind_eq_some_iff.mp H
                  obtain ⟨t545, A470, H⟩ := H
                  replace H : (if t545 = true then (some (t532 == 1)) else (if t543 = true then (if 0 ≤ t533 then (if t533 < (l0.length : Int) then (if ((rd_T61 l0 t533).f3) = 4 then (some (t532 == 3)) else (if (a1.size : Int) > ((rd_T61 l0 t533).f2) then (some (t532 == 3)) else (if ((t532 == 1) == (decide ((a1.size : Int) < ((rd_T61 l0 t533).f2)))) = true then (some ((t532 == 2) == ((a1.size : Int) == ((rd_T61 l0 t533).f2)))) else (some false)))) else (none)) else (none)) else (if t532 = 1 then (if a1.toList = ([] : List UInt8) then (some true) else (if t532 = 3 then (some (a1.toList != ([] : List UInt8))) else (some false))) else (if t532 = 3 then (some (a1.toList != ([] : List UInt8))) else (some false))))) = some r := H
                  have A47 := Aside0.mk A470
                  clear A470
                  by_cases c48 : t545 = true
                  · subst c48
                    have H1 : (some (t532 == 1)) = some r := by rw [if_pos rfl] at H; exact H
                    clear H
                    have H := H1
                    clear H1
                    obtain rfl := Option.some.inj H
                    have hnb49 := NB540_535.out
                    have hnc49 := NB535_540.out
                    have hcz50_0 : wc.cell? ⟨gb540, 0, none⟩ = some (.slice Ao25 t536.length co25) := (blk_cell BK540.out 0).trans rfl
                    have hfz50_0 := blk_frozen BK540.out 0
                    go_wp2_with (first | ((with_reducible refine gate_callee (f := 19) rfl ?_); refine goesL_ (some 90) rfl rfl Tryd.func19 (by kernel_rfl) rfl #[.agg #[.slice Ao25 t536.length co25], .string a1] rfl (by (try simp only [List.map_toArray, List.map_cons, List.map_nil]); first | done | rfl | (simp only [List.length_drop, List.length_take]; rfl)) ?_; (with_reducible refine (trie_Extends.calls kj18 _ _ t536 a1 true _ ?side1 ?side2 A47.out).mono ?_); (case side1 => repeat (first | exact (Kd.R_reads' HO_541000.out).2.2 | (with_reducible refine Kd.C_alloc ?_ _) | (with_reducible refine Kd.C_drewN ?_ _) | (with_reducible refine Kd.C_drew ?_))); (case side2 => exact (Kd.R_reads' HO_541000.out).2.1); rintro e w51 ⟨rfl, hb⟩; refine ⟨_, rfl, ?_⟩; have n0_ := Aside0.mk (Kd.R_below (by (with_reducible repeat (first | apply Kd.R_alloc | apply Kd.R_drewN | apply Kd.R_drew)); exact HO_541000.out) hb); have n1_ := Aside0.mk (blk_below (g := gb535) (o := .cells #[.int .i64 t532, .int .i64 t533] 55 (0, 0)) (by (with_reducible repeat (first | refine blk_drewN ?_ _ | refine blk_drew ?_ | refine blk_alloc ?_ _)); exact BK535.out) hb); have n2_ := Aside0.mk (blk_below (g := gb540) (o := .cells #[.slice Ao25 t536.length co25] 24 (0, 0)) (by (with_reducible repeat (first | refine blk_drewN ?_ _ | refine blk_drew ?_ | refine blk_alloc ?_ _)); exact BK540.out) hb); have n3_ := Aside0.mk (below_step (by repeat (first | (with_reducible first | exact HB.out | apply below_alloc | apply pw_below_drewN | apply below_drew1 | refine below_set ?_ GE535.out | refine below_set ?_ GE540.out) | exact HB.out)) hb); clear HO_541000; clear BK535; clear BK540; clear HB; have HO_541000 := n0_; have BK535 := n1_; have BK540 := n2_; have HB := n3_; clear n0_ n1_ n2_ n3_; (try clear hb); (try clear hb2); (try clear hk); (try clear hi); have hcz52_0 : w51.cell? ⟨gb535, 0, none⟩ = some (.int .i64 t532) := (blk_cell BK535.out 0).trans rfl; have hcz52_1 : w51.cell? ⟨gb535, 1, none⟩ = some (.int .i64 t533) := (blk_cell BK535.out 1).trans rfl; have hfz52_0 := blk_frozen BK535.out 0; have hfz52_1 := blk_frozen BK535.out 1))
                    go_ret
                    exact ⟨by first | rfl | (simp [errW_none, errW_some] <;> rfl) | (simp [*, errW_none, errW_some] <;> rfl) | (simp [nil_flag ht]), by repeat (first | (with_reducible first | exact HB.out | apply below_alloc | apply pw_below_drewN | apply below_drew1 | refine below_set ?_ GE535.out | refine below_set ?_ GE540.out) | exact HB.out)⟩
                  · replace c48 := Bool.eq_false_iff.mpr c48
                    subst c48
                    have H1 : (if t543 = true then (if 0 ≤ t533 then (if t533 < (l0.length : Int) then (if ((rd_T61 l0 t533).f3) = 4 then (some (t532 == 3)) else (if (a1.size : Int) > ((rd_T61 l0 t533).f2) then (some (t532 == 3)) else (if ((t532 == 1) == (decide ((a1.size : Int) < ((rd_T61 l0 t533).f2)))) = true then (some ((t532 == 2) == ((a1.size : Int) == ((rd_T61 l0 t533).f2)))) else (some false)))) else (none)) else (none)) else (if t532 = 1 then (if a1.toList = ([] : List UInt8) then (some true) else (if t532 = 3 then (some (a1.toList != ([] : List UInt8))) else (some false))) else (if t532 = 3 then (some (a1.toList != ([] : List UInt8))) else (some false)))) = some r := by rw [if_neg (show ¬ (false = true) by decide)] at H; exact H
                    clear H
                    have H := H1
                    clear H1
                    by_cases c53 : t543 = true
                    · subst c53
                      have H1 : (if 0 ≤ t533 then (if t533 < (l0.length : Int) then (if ((rd_T61 l0 t533).f3) = 4 then (some (t532 == 3)) else (if (a1.size : Int) > ((rd_T61 l0 t533).f2) then (some (t532 == 3)) else (if ((t532 == 1) == (decide ((a1.size : Int) < ((rd_T61 l0 t533).f2)))) = true then (some ((t532 == 2) == ((a1.size : Int) == ((rd_T61 l0 t533).f2)))) else (some false)))) else (none)) else (none)) = some r := by rw [if_pos rfl] at H; exact H
                      clear H
                      have H := H1
                      clear H1
                      by_cases c54 : 0 ≤ t533
                      · rw [if_pos c54] at H
                        have c54b0 : decide (0 ≤ t533) = true := decide_eq_true c54
                        clear c54
                        by_cases c55 : t533 < (l0.length : Int)
                        · rw [if_pos c55] at H
                          have c55b0 : decide (t533 < (l0.length : Int)) = true := decide_eq_true c55
                          clear c55
                          by_cases c56 : ((rd_T61 l0 t533).f3) = 4
                          · rw [if_pos c56] at H
                            have c56b0 : (((rd_T61 l0 t533).f3) == 4) = true := beq_iff_eq.mpr c56
                            have c56b1 : (((rd_T61 l0 t533).f3) != 4) = false := bne_eq_false_iff_eq.mpr c56
                            clear c56
                            obtain rfl := Option.some.inj H
                            have hnb57 := NB540_535.out
                            have hnc57 := NB535_540.out
                            have hcz58_0 : wc.cell? ⟨gb540, 0, none⟩ = some (.slice Ao25 t536.length co25) := (blk_cell BK540.out 0).trans rfl
                            have hfz58_0 := blk_frozen BK540.out 0
                            go_wp2_with (first | ((with_reducible refine gate_callee (f := 19) rfl ?_); refine goesL_ (some 90) rfl rfl Tryd.func19 (by kernel_rfl) rfl #[.agg #[.slice Ao25 t536.length co25], .string a1] rfl (by (try simp only [List.map_toArray, List.map_cons, List.map_nil]); first | done | rfl | (simp only [List.length_drop, List.length_take]; rfl)) ?_; (with_reducible refine (trie_Extends.calls kj18 _ _ t536 a1 false _ ?side1 ?side2 A47.out).mono ?_); (case side1 => repeat (first | exact (Kd.R_reads' HO_541000.out).2.2 | (with_reducible refine Kd.C_alloc ?_ _) | (with_reducible refine Kd.C_drewN ?_ _) | (with_reducible refine Kd.C_drew ?_))); (case side2 => exact (Kd.R_reads' HO_541000.out).2.1); rintro e w59 ⟨rfl, hb⟩; refine ⟨_, rfl, ?_⟩; have n0_ := Aside0.mk (Kd.R_below (by (with_reducible repeat (first | apply Kd.R_alloc | apply Kd.R_drewN | apply Kd.R_drew)); exact HO_541000.out) hb); have n1_ := Aside0.mk (blk_below (g := gb535) (o := .cells #[.int .i64 t532, .int .i64 t533] 55 (0, 0)) (by (with_reducible repeat (first | refine blk_drewN ?_ _ | refine blk_drew ?_ | refine blk_alloc ?_ _)); exact BK535.out) hb); have n2_ := Aside0.mk (blk_below (g := gb540) (o := .cells #[.slice Ao25 t536.length co25] 24 (0, 0)) (by (with_reducible repeat (first | refine blk_drewN ?_ _ | refine blk_drew ?_ | refine blk_alloc ?_ _)); exact BK540.out) hb); have n3_ := Aside0.mk (below_step (by repeat (first | (with_reducible first | exact HB.out | apply below_alloc | apply pw_below_drewN | apply below_drew1 | refine below_set ?_ GE535.out | refine below_set ?_ GE540.out) | exact HB.out)) hb); clear HO_541000; clear BK535; clear BK540; clear HB; have HO_541000 := n0_; have BK535 := n1_; have BK540 := n2_; have HB := n3_; clear n0_ n1_ n2_ n3_; (try clear hb); (try clear hb2); (try clear hk); (try clear hi); have hcz60_0 : w59.cell? ⟨gb535, 0, none⟩ = some (.int .i64 t532) := (blk_cell BK535.out 0).trans rfl; have hcz60_1 : w59.cell? ⟨gb535, 1, none⟩ = some (.int .i64 t533) := (blk_cell BK535.out 1).trans rfl; have hfz60_0 := blk_frozen BK535.out 0; have hfz60_1 := blk_frozen BK535.out 1; have p546 : 0 ≤ (t533 : Int) := of_decide_eq_true (by first | (with_reducible assumption) | assumption); have q546 : t533 < (l0.length : Int) := of_decide_eq_true (by first | (with_reducible assumption) | assumption); obtain ⟨ad546, e546, hx546_0, hx546_1, hx546_2, hx546_3⟩ := at_T61 HR0.out t533 p546 q546; cases e546; replace hx546_0 := (HB.out.cell (World.block_lt_of_cell? w _ hx546_0)).trans hx546_0; replace hx546_1 := (HB.out.cell (World.block_lt_of_cell? w _ hx546_1)).trans hx546_1; replace hx546_2 := (HB.out.cell (World.block_lt_of_cell? w _ hx546_2)).trans hx546_2; replace hx546_3 := (HB.out.cell (World.block_lt_of_cell? w _ hx546_3)).trans hx546_3; replace p546 := eq_true p546; replace q546 := eq_true q546) | ((with_reducible refine gate_dst (N := 12) rfl ?_); (try (refine gate_guard (by rfl) ?_; dsimp only)); refine box_event ?hg (N := 12) ?hd (cs := #[.string (⟨#[]⟩ : ByteArray), .int .i64 0, .int .i64 0, .int .i64 0]) (t := 61) ?hr ?_; (case hd => rfl); (case hg => rfl); (case hr => first | (go_simp; done) | (go_simp; rfl)); intro gb547 hg w61 hbox hb; have n0_ := Aside0.mk (Kd.R_below (by (with_reducible repeat (first | apply Kd.R_alloc | apply Kd.R_drewN | apply Kd.R_drew)); exact HO_541000.out) hb); have n1_ := Aside0.mk (blk_below (g := gb535) (o := .cells #[.int .i64 t532, .int .i64 t533] 55 (0, 0)) (by (with_reducible repeat (first | refine blk_drewN ?_ _ | refine blk_drew ?_ | refine blk_alloc ?_ _)); exact BK535.out) hb); have n2_ := Aside0.mk (blk_below (g := gb540) (o := .cells #[.slice Ao25 t536.length co25] 24 (0, 0)) (by (with_reducible repeat (first | refine blk_drewN ?_ _ | refine blk_drew ?_ | refine blk_alloc ?_ _)); exact BK540.out) hb); have n3_ := Aside0.mk (below_step (by repeat (first | (with_reducible first | exact HB.out | apply below_alloc | apply pw_below_drewN | apply below_drew1 | refine below_set ?_ GE535.out | refine below_set ?_ GE540.out) | exact HB.out)) hb); have n4_ := Aside0.mk (hbox); have n5_ := Aside0.mk ((by rw [hg]; exact (below_size (by repeat (first | (with_reducible first | exact HB.out | apply below_alloc | apply pw_below_drewN | apply below_drew1 | refine below_set ?_ GE535.out | refine below_set ?_ GE540.out) | exact HB.out))) : w.heap.size ≤ gb547)); have n6_ := Aside0.mk ((by rw [hg]; exact (below_size (by repeat (first | (with_reducible first | exact HB.out | apply below_alloc | apply pw_below_drewN | apply below_drew1 | refine below_set ?_ GE535.out | refine below_set ?_ GE540.out) | exact HB.out))) : w.heap.size ≤ gb547)); have n7_ := Aside0.mk ((by rw [hg]; exact Nat.ne_of_lt (blk_lt (g := gb535) (o := .cells #[.int .i64 t532, .int .i64 t533] 55 (0, 0)) (by (with_reducible repeat (first | refine blk_drewN ?_ _ | refine blk_drew ?_ | refine blk_alloc ?_ _)); exact BK535.out)) : gb535 ≠ gb547)); have n8_ := Aside0.mk ((by rw [hg]; exact Nat.ne_of_gt (blk_lt (g := gb535) (o := .cells #[.int .i64 t532, .int .i64 t533] 55 (0, 0)) (by (with_reducible repeat (first | refine blk_drewN ?_ _ | refine blk_drew ?_ | refine blk_alloc ?_ _)); exact BK535.out)) : gb547 ≠ gb535)); have n9_ := Aside0.mk ((by rw [hg]; exact Nat.ne_of_lt (blk_lt (g := gb540) (o := .cells #[.slice Ao25 t536.length co25] 24 (0, 0)) (by (with_reducible repeat (first | refine blk_drewN ?_ _ | refine blk_drew ?_ | refine blk_alloc ?_ _)); exact BK540.out)) : gb540 ≠ gb547)); have n10_ := Aside0.mk ((by rw [hg]; exact Nat.ne_of_gt (blk_lt (g := gb540) (o := .cells #[.slice Ao25 t536.length co25] 24 (0, 0)) (by (with_reducible repeat (first | refine blk_drewN ?_ _ | refine blk_drew ?_ | refine blk_alloc ?_ _)); exact BK540.out)) : gb547 ≠ gb540)); clear HO_541000; clear BK535; clear BK540; clear HB; have HO_541000 := n0_; have BK535 := n1_; have BK540 := n2_; have HB := n3_; have BK547 := n4_; have GW547 := n5_; have GE547 := n6_; have NB535_547 := n7_; have NB547_535 := n8_; have NB540_547 := n9_; have NB547_540 := n10_; clear n0_ n1_ n2_ n3_ n4_ n5_ n6_ n7_ n8_ n9_ n10_; clear hb hbox hg; have hnb62 := NB547_535.out; have hnc62 := NB535_547.out; have hnb63 := NB547_540.out; have hnc63 := NB540_547.out; have hcz64_0 : w61.cell? ⟨gb547, 0, none⟩ = some (.string (⟨#[]⟩ : ByteArray)) := (blk_cell BK547.out 0).trans rfl; have hcz64_1 : w61.cell? ⟨gb547, 1, none⟩ = some (.int .i64 0) := (blk_cell BK547.out 1).trans rfl; have hcz64_2 : w61.cell? ⟨gb547, 2, none⟩ = some (.int .i64 0) := (blk_cell BK547.out 2).trans rfl; have hcz64_3 : w61.cell? ⟨gb547, 3, none⟩ = some (.int .i64 0) := (blk_cell BK547.out 3).trans rfl; have hfz64_0 := blk_frozen BK547.out 0; have hfz64_1 := blk_frozen BK547.out 1; have hfz64_2 := blk_frozen BK547.out 2; have hfz64_3 := blk_frozen BK547.out 3; have hcz65_0 : w61.cell? ⟨gb535, 0, none⟩ = some (.int .i64 t532) := (blk_cell BK535.out 0).trans rfl; have hcz65_1 : w61.cell? ⟨gb535, 1, none⟩ = some (.int .i64 t533) := (blk_cell BK535.out 1).trans rfl; have hfz65_0 := blk_frozen BK535.out 0; have hfz65_1 := blk_frozen BK535.out 1))
                            go_ret
                            exact ⟨by first | rfl | (simp [errW_none, errW_some] <;> rfl) | (simp [*, errW_none, errW_some] <;> rfl) | (simp [nil_flag ht]), by repeat (first | (with_reducible first | exact HB.out | apply below_alloc | apply pw_below_drewN | apply below_drew1 | refine below_set ?_ GE535.out | refine below_set ?_ GE540.out | refine below_set ?_ GE547.out) | exact HB.out)⟩
                          · rw [if_neg c56] at H
                            have c56b0 : (((rd_T61 l0 t533).f3) == 4) = false := beq_eq_false_iff_ne.mpr c56
                            have c56b1 : (((rd_T61 l0 t533).f3) != 4) = true := bne_iff_ne.mpr c56
                            by_cases c66 : (a1.size : Int) > ((rd_T61 l0 t533).f2)
                            · rw [if_pos c66] at H
                              have c66b0 : decide (((rd_T61 l0 t533).f2) < (a1.size : Int)) = true := decide_eq_true c66
                              clear c66
                              obtain rfl := Option.some.inj H
                              have hnb67 := NB540_535.out
                              have hnc67 := NB535_540.out
                              have hcz68_0 : wc.cell? ⟨gb540, 0, none⟩ = some (.slice Ao25 t536.length co25) := (blk_cell BK540.out 0).trans rfl
                              have hfz68_0 := blk_frozen BK540.out 0
                              go_wp2_with (first | ((with_reducible refine gate_callee (f := 19) rfl ?_); refine goesL_ (some 90) rfl rfl Tryd.func19 (by kernel_rfl) rfl #[.agg #[.slice Ao25 t536.length co25], .string a1] rfl (by (try simp only [List.map_toArray, List.map_cons, List.map_nil]); first | done | rfl | (simp only [List.length_drop, List.length_take]; rfl)) ?_; (with_reducible refine (trie_Extends.calls kj18 _ _ t536 a1 false _ ?side1 ?side2 A47.out).mono ?_); (case side1 => repeat (first | exact (Kd.R_reads' HO_541000.out).2.2 | (with_reducible refine Kd.C_alloc ?_ _) | (with_reducible refine Kd.C_drewN ?_ _) | (with_reducible refine Kd.C_drew ?_))); (case side2 => exact (Kd.R_reads' HO_541000.out).2.1); rintro e w69 ⟨rfl, hb⟩; refine ⟨_, rfl, ?_⟩; have n0_ := Aside0.mk (Kd.R_below (by (with_reducible repeat (first | apply Kd.R_alloc | apply Kd.R_drewN | apply Kd.R_drew)); exact HO_541000.out) hb); have n1_ := Aside0.mk (blk_below (g := gb535) (o := .cells #[.int .i64 t532, .int .i64 t533] 55 (0, 0)) (by (with_reducible repeat (first | refine blk_drewN ?_ _ | refine blk_drew ?_ | refine blk_alloc ?_ _)); exact BK535.out) hb); have n2_ := Aside0.mk (blk_below (g := gb540) (o := .cells #[.slice Ao25 t536.length co25] 24 (0, 0)) (by (with_reducible repeat (first | refine blk_drewN ?_ _ | refine blk_drew ?_ | refine blk_alloc ?_ _)); exact BK540.out) hb); have n3_ := Aside0.mk (below_step (by repeat (first | (with_reducible first | exact HB.out | apply below_alloc | apply pw_below_drewN | apply below_drew1 | refine below_set ?_ GE535.out | refine below_set ?_ GE540.out) | exact HB.out)) hb); clear HO_541000; clear BK535; clear BK540; clear HB; have HO_541000 := n0_; have BK535 := n1_; have BK540 := n2_; have HB := n3_; clear n0_ n1_ n2_ n3_; (try clear hb); (try clear hb2); (try clear hk); (try clear hi); have hcz70_0 : w69.cell? ⟨gb535, 0, none⟩ = some (.int .i64 t532) := (blk_cell BK535.out 0).trans rfl; have hcz70_1 : w69.cell? ⟨gb535, 1, none⟩ = some (.int .i64 t533) := (blk_cell BK535.out 1).trans rfl; have hfz70_0 := blk_frozen BK535.out 0; have hfz70_1 := blk_frozen BK535.out 1; have p546 : 0 ≤ (t533 : Int) := of_decide_eq_true (by first | (with_reducible assumption) | assumption); have q546 : t533 < (l0.length : Int) := of_decide_eq_true (by first | (with_reducible assumption) | assumption); obtain ⟨ad546, e546, hx546_0, hx546_1, hx546_2, hx546_3⟩ := at_T61 HR0.out t533 p546 q546; cases e546; replace hx546_0 := (HB.out.cell (World.block_lt_of_cell? w _ hx546_0)).trans hx546_0; replace hx546_1 := (HB.out.cell (World.block_lt_of_cell? w _ hx546_1)).trans hx546_1; replace hx546_2 := (HB.out.cell (World.block_lt_of_cell? w _ hx546_2)).trans hx546_2; replace hx546_3 := (HB.out.cell (World.block_lt_of_cell? w _ hx546_3)).trans hx546_3; replace p546 := eq_true p546; replace q546 := eq_true q546) | ((with_reducible refine gate_dst (N := 12) rfl ?_); (try (refine gate_guard (by rfl) ?_; dsimp only)); refine box_event ?hg (N := 12) ?hd (cs := #[.string (⟨#[]⟩ : ByteArray), .int .i64 0, .int .i64 0, .int .i64 0]) (t := 61) ?hr ?_; (case hd => rfl); (case hg => rfl); (case hr => first | (go_simp; done) | (go_simp; rfl)); intro gb547 hg w71 hbox hb; have n0_ := Aside0.mk (Kd.R_below (by (with_reducible repeat (first | apply Kd.R_alloc | apply Kd.R_drewN | apply Kd.R_drew)); exact HO_541000.out) hb); have n1_ := Aside0.mk (blk_below (g := gb535) (o := .cells #[.int .i64 t532, .int .i64 t533] 55 (0, 0)) (by (with_reducible repeat (first | refine blk_drewN ?_ _ | refine blk_drew ?_ | refine blk_alloc ?_ _)); exact BK535.out) hb); have n2_ := Aside0.mk (blk_below (g := gb540) (o := .cells #[.slice Ao25 t536.length co25] 24 (0, 0)) (by (with_reducible repeat (first | refine blk_drewN ?_ _ | refine blk_drew ?_ | refine blk_alloc ?_ _)); exact BK540.out) hb); have n3_ := Aside0.mk (below_step (by repeat (first | (with_reducible first | exact HB.out | apply below_alloc | apply pw_below_drewN | apply below_drew1 | refine below_set ?_ GE535.out | refine below_set ?_ GE540.out) | exact HB.out)) hb); have n4_ := Aside0.mk (hbox); have n5_ := Aside0.mk ((by rw [hg]; exact (below_size (by repeat (first | (with_reducible first | exact HB.out | apply below_alloc | apply pw_below_drewN | apply below_drew1 | refine below_set ?_ GE535.out | refine below_set ?_ GE540.out) | exact HB.out))) : w.heap.size ≤ gb547)); have n6_ := Aside0.mk ((by rw [hg]; exact (below_size (by repeat (first | (with_reducible first | exact HB.out | apply below_alloc | apply pw_below_drewN | apply below_drew1 | refine below_set ?_ GE535.out | refine below_set ?_ GE540.out) | exact HB.out))) : w.heap.size ≤ gb547)); have n7_ := Aside0.mk ((by rw [hg]; exact Nat.ne_of_lt (blk_lt (g := gb535) (o := .cells #[.int .i64 t532, .int .i64 t533] 55 (0, 0)) (by (with_reducible repeat (first | refine blk_drewN ?_ _ | refine blk_drew ?_ | refine blk_alloc ?_ _)); exact BK535.out)) : gb535 ≠ gb547)); have n8_ := Aside0.mk ((by rw [hg]; exact Nat.ne_of_gt (blk_lt (g := gb535) (o := .cells #[.int .i64 t532, .int .i64 t533] 55 (0, 0)) (by (with_reducible repeat (first | refine blk_drewN ?_ _ | refine blk_drew ?_ | refine blk_alloc ?_ _)); exact BK535.out)) : gb547 ≠ gb535)); have n9_ := Aside0.mk ((by rw [hg]; exact Nat.ne_of_lt (blk_lt (g := gb540) (o := .cells #[.slice Ao25 t536.length co25] 24 (0, 0)) (by (with_reducible repeat (first | refine blk_drewN ?_ _ | refine blk_drew ?_ | refine blk_alloc ?_ _)); exact BK540.out)) : gb540 ≠ gb547)); have n10_ := Aside0.mk ((by rw [hg]; exact Nat.ne_of_gt (blk_lt (g := gb540) (o := .cells #[.slice Ao25 t536.length co25] 24 (0, 0)) (by (with_reducible repeat (first | refine blk_drewN ?_ _ | refine blk_drew ?_ | refine blk_alloc ?_ _)); exact BK540.out)) : gb547 ≠ gb540)); clear HO_541000; clear BK535; clear BK540; clear HB; have HO_541000 := n0_; have BK535 := n1_; have BK540 := n2_; have HB := n3_; have BK547 := n4_; have GW547 := n5_; have GE547 := n6_; have NB535_547 := n7_; have NB547_535 := n8_; have NB540_547 := n9_; have NB547_540 := n10_; clear n0_ n1_ n2_ n3_ n4_ n5_ n6_ n7_ n8_ n9_ n10_; clear hb hbox hg; have hnb72 := NB547_535.out; have hnc72 := NB535_547.out; have hnb73 := NB547_540.out; have hnc73 := NB540_547.out; have hcz74_0 : w71.cell? ⟨gb547, 0, none⟩ = some (.string (⟨#[]⟩ : ByteArray)) := (blk_cell BK547.out 0).trans rfl; have hcz74_1 : w71.cell? ⟨gb547, 1, none⟩ = some (.int .i64 0) := (blk_cell BK547.out 1).trans rfl; have hcz74_2 : w71.cell? ⟨gb547, 2, none⟩ = some (.int .i64 0) := (blk_cell BK547.out 2).trans rfl; have hcz74_3 : w71.cell? ⟨gb547, 3, none⟩ = some (.int .i64 0) := (blk_cell BK547.out 3).trans rfl; have hfz74_0 := blk_frozen BK547.out 0; have hfz74_1 := blk_frozen BK547.out 1; have hfz74_2 := blk_frozen BK547.out 2; have hfz74_3 := blk_frozen BK547.out 3; have hcz75_0 : w71.cell? ⟨gb535, 0, none⟩ = some (.int .i64 t532) := (blk_cell BK535.out 0).trans rfl; have hcz75_1 : w71.cell? ⟨gb535, 1, none⟩ = some (.int .i64 t533) := (blk_cell BK535.out 1).trans rfl; have hfz75_0 := blk_frozen BK535.out 0; have hfz75_1 := blk_frozen BK535.out 1))
                              go_ret
                              exact ⟨by first | rfl | (simp [errW_none, errW_some] <;> rfl) | (simp [*, errW_none, errW_some] <;> rfl) | (simp [nil_flag ht]), by repeat (first | (with_reducible first | exact HB.out | apply below_alloc | apply pw_below_drewN | apply below_drew1 | refine below_set ?_ GE535.out | refine below_set ?_ GE540.out | refine below_set ?_ GE547.out) | exact HB.out)⟩
                            · rw [if_neg c66] at H
                              have c66b0 : decide (((rd_T61 l0 t533).f2) < (a1.size : Int)) = false := decide_eq_false c66
                              clear c66
                              by_cases c76 : ((t532 == 1) == (decide ((a1.size : Int) < ((rd_T61 l0 t533).f2)))) = true
                              · rw [if_pos c76] at H
                                have c76b0 : ((t532 == 1) == (decide ((a1.size : Int) < ((rd_T61 l0 t533).f2)))) = true := c76
                                (try (have c76b1 : decide ((t532 == 1) = (decide ((a1.size : Int) < ((rd_T61 l0 t533).f2)))) = true := by simpa using c76))
                                (try (have c76b2 : ((t532 == 1) == (decide ((a1.size : Int) < ((rd_T61 l0 t533).f2)))) = true := by simpa using c76))
                                clear c76
                                obtain rfl := Option.some.inj H
                                have hnb77 := NB540_535.out
                                have hnc77 := NB535_540.out
                                have hcz78_0 : wc.cell? ⟨gb540, 0, none⟩ = some (.slice Ao25 t536.length co25) := (blk_cell BK540.out 0).trans rfl
                                have hfz78_0 := blk_frozen BK540.out 0
                                go_wp2_with (first | ((with_reducible refine gate_callee (f := 19) rfl ?_); refine goesL_ (some 90) rfl rfl Tryd.func19 (by kernel_rfl) rfl #[.agg #[.slice Ao25 t536.length co25], .string a1] rfl (by (try simp only [List.map_toArray, List.map_cons, List.map_nil]); first | done | rfl | (simp only [List.length_drop, List.length_take]; rfl)) ?_; (with_reducible refine (trie_Extends.calls kj18 _ _ t536 a1 false _ ?side1 ?side2 A47.out).mono ?_); (case side1 => repeat (first | exact (Kd.R_reads' HO_541000.out).2.2 | (with_reducible refine Kd.C_alloc ?_ _) | (with_reducible refine Kd.C_drewN ?_ _) | (with_reducible refine Kd.C_drew ?_))); (case side2 => exact (Kd.R_reads' HO_541000.out).2.1); rintro e w79 ⟨rfl, hb⟩; refine ⟨_, rfl, ?_⟩; have n0_ := Aside0.mk (Kd.R_below (by (with_reducible repeat (first | apply Kd.R_alloc | apply Kd.R_drewN | apply Kd.R_drew)); exact HO_541000.out) hb); have n1_ := Aside0.mk (blk_below (g := gb535) (o := .cells #[.int .i64 t532, .int .i64 t533] 55 (0, 0)) (by (with_reducible repeat (first | refine blk_drewN ?_ _ | refine blk_drew ?_ | refine blk_alloc ?_ _)); exact BK535.out) hb); have n2_ := Aside0.mk (blk_below (g := gb540) (o := .cells #[.slice Ao25 t536.length co25] 24 (0, 0)) (by (with_reducible repeat (first | refine blk_drewN ?_ _ | refine blk_drew ?_ | refine blk_alloc ?_ _)); exact BK540.out) hb); have n3_ := Aside0.mk (below_step (by repeat (first | (with_reducible first | exact HB.out | apply below_alloc | apply pw_below_drewN | apply below_drew1 | refine below_set ?_ GE535.out | refine below_set ?_ GE540.out) | exact HB.out)) hb); clear HO_541000; clear BK535; clear BK540; clear HB; have HO_541000 := n0_; have BK535 := n1_; have BK540 := n2_; have HB := n3_; clear n0_ n1_ n2_ n3_; (try clear hb); (try clear hb2); (try clear hk); (try clear hi); have hcz80_0 : w79.cell? ⟨gb535, 0, none⟩ = some (.int .i64 t532) := (blk_cell BK535.out 0).trans rfl; have hcz80_1 : w79.cell? ⟨gb535, 1, none⟩ = some (.int .i64 t533) := (blk_cell BK535.out 1).trans rfl; have hfz80_0 := blk_frozen BK535.out 0; have hfz80_1 := blk_frozen BK535.out 1; have p546 : 0 ≤ (t533 : Int) := of_decide_eq_true (by first | (with_reducible assumption) | assumption); have q546 : t533 < (l0.length : Int) := of_decide_eq_true (by first | (with_reducible assumption) | assumption); obtain ⟨ad546, e546, hx546_0, hx546_1, hx546_2, hx546_3⟩ := at_T61 HR0.out t533 p546 q546; cases e546; replace hx546_0 := (HB.out.cell (World.block_lt_of_cell? w _ hx546_0)).trans hx546_0; replace hx546_1 := (HB.out.cell (World.block_lt_of_cell? w _ hx546_1)).trans hx546_1; replace hx546_2 := (HB.out.cell (World.block_lt_of_cell? w _ hx546_2)).trans hx546_2; replace hx546_3 := (HB.out.cell (World.block_lt_of_cell? w _ hx546_3)).trans hx546_3; replace p546 := eq_true p546; replace q546 := eq_true q546) | ((with_reducible refine gate_dst (N := 12) rfl ?_); (try (refine gate_guard (by rfl) ?_; dsimp only)); refine box_event ?hg (N := 12) ?hd (cs := #[.string (⟨#[]⟩ : ByteArray), .int .i64 0, .int .i64 0, .int .i64 0]) (t := 61) ?hr ?_; (case hd => rfl); (case hg => rfl); (case hr => first | (go_simp; done) | (go_simp; rfl)); intro gb547 hg w81 hbox hb; have n0_ := Aside0.mk (Kd.R_below (by (with_reducible repeat (first | apply Kd.R_alloc | apply Kd.R_drewN | apply Kd.R_drew)); exact HO_541000.out) hb); have n1_ := Aside0.mk (blk_below (g := gb535) (o := .cells #[.int .i64 t532, .int .i64 t533] 55 (0, 0)) (by (with_reducible repeat (first | refine blk_drewN ?_ _ | refine blk_drew ?_ | refine blk_alloc ?_ _)); exact BK535.out) hb); have n2_ := Aside0.mk (blk_below (g := gb540) (o := .cells #[.slice Ao25 t536.length co25] 24 (0, 0)) (by (with_reducible repeat (first | refine blk_drewN ?_ _ | refine blk_drew ?_ | refine blk_alloc ?_ _)); exact BK540.out) hb); have n3_ := Aside0.mk (below_step (by repeat (first | (with_reducible first | exact HB.out | apply below_alloc | apply pw_below_drewN | apply below_drew1 | refine below_set ?_ GE535.out | refine below_set ?_ GE540.out) | exact HB.out)) hb); have n4_ := Aside0.mk (hbox); have n5_ := Aside0.mk ((by rw [hg]; exact (below_size (by repeat (first | (with_reducible first | exact HB.out | apply below_alloc | apply pw_below_drewN | apply below_drew1 | refine below_set ?_ GE535.out | refine below_set ?_ GE540.out) | exact HB.out))) : w.heap.size ≤ gb547)); have n6_ := Aside0.mk ((by rw [hg]; exact (below_size (by repeat (first | (with_reducible first | exact HB.out | apply below_alloc | apply pw_below_drewN | apply below_drew1 | refine below_set ?_ GE535.out | refine below_set ?_ GE540.out) | exact HB.out))) : w.heap.size ≤ gb547)); have n7_ := Aside0.mk ((by rw [hg]; exact Nat.ne_of_lt (blk_lt (g := gb535) (o := .cells #[.int .i64 t532, .int .i64 t533] 55 (0, 0)) (by (with_reducible repeat (first | refine blk_drewN ?_ _ | refine blk_drew ?_ | refine blk_alloc ?_ _)); exact BK535.out)) : gb535 ≠ gb547)); have n8_ := Aside0.mk ((by rw [hg]; exact Nat.ne_of_gt (blk_lt (g := gb535) (o := .cells #[.int .i64 t532, .int .i64 t533] 55 (0, 0)) (by (with_reducible repeat (first | refine blk_drewN ?_ _ | refine blk_drew ?_ | refine blk_alloc ?_ _)); exact BK535.out)) : gb547 ≠ gb535)); have n9_ := Aside0.mk ((by rw [hg]; exact Nat.ne_of_lt (blk_lt (g := gb540) (o := .cells #[.slice Ao25 t536.length co25] 24 (0, 0)) (by (with_reducible repeat (first | refine blk_drewN ?_ _ | refine blk_drew ?_ | refine blk_alloc ?_ _)); exact BK540.out)) : gb540 ≠ gb547)); have n10_ := Aside0.mk ((by rw [hg]; exact Nat.ne_of_gt (blk_lt (g := gb540) (o := .cells #[.slice Ao25 t536.length co25] 24 (0, 0)) (by (with_reducible repeat (first | refine blk_drewN ?_ _ | refine blk_drew ?_ | refine blk_alloc ?_ _)); exact BK540.out)) : gb547 ≠ gb540)); clear HO_541000; clear BK535; clear BK540; clear HB; have HO_541000 := n0_; have BK535 := n1_; have BK540 := n2_; have HB := n3_; have BK547 := n4_; have GW547 := n5_; have GE547 := n6_; have NB535_547 := n7_; have NB547_535 := n8_; have NB540_547 := n9_; have NB547_540 := n10_; clear n0_ n1_ n2_ n3_ n4_ n5_ n6_ n7_ n8_ n9_ n10_; clear hb hbox hg; have hnb82 := NB547_535.out; have hnc82 := NB535_547.out; have hnb83 := NB547_540.out; have hnc83 := NB540_547.out; have hcz84_0 : w81.cell? ⟨gb547, 0, none⟩ = some (.string (⟨#[]⟩ : ByteArray)) := (blk_cell BK547.out 0).trans rfl; have hcz84_1 : w81.cell? ⟨gb547, 1, none⟩ = some (.int .i64 0) := (blk_cell BK547.out 1).trans rfl; have hcz84_2 : w81.cell? ⟨gb547, 2, none⟩ = some (.int .i64 0) := (blk_cell BK547.out 2).trans rfl; have hcz84_3 : w81.cell? ⟨gb547, 3, none⟩ = some (.int .i64 0) := (blk_cell BK547.out 3).trans rfl; have hfz84_0 := blk_frozen BK547.out 0; have hfz84_1 := blk_frozen BK547.out 1; have hfz84_2 := blk_frozen BK547.out 2; have hfz84_3 := blk_frozen BK547.out 3; have hcz85_0 : w81.cell? ⟨gb535, 0, none⟩ = some (.int .i64 t532) := (blk_cell BK535.out 0).trans rfl; have hcz85_1 : w81.cell? ⟨gb535, 1, none⟩ = some (.int .i64 t533) := (blk_cell BK535.out 1).trans rfl; have hfz85_0 := blk_frozen BK535.out 0; have hfz85_1 := blk_frozen BK535.out 1))
                                go_ret
                                exact ⟨by first | rfl | (simp [errW_none, errW_some] <;> rfl) | (simp [*, errW_none, errW_some] <;> rfl) | (simp [nil_flag ht]), by repeat (first | (with_reducible first | exact HB.out | apply below_alloc | apply pw_below_drewN | apply below_drew1 | refine below_set ?_ GE535.out | refine below_set ?_ GE540.out | refine below_set ?_ GE547.out) | exact HB.out)⟩
                              · rw [if_neg c76] at H
                                have c76b0 : ((t532 == 1) == (decide ((a1.size : Int) < ((rd_T61 l0 t533).f2)))) = false := by simpa using c76
                                (try (have c76b1 : decide ((t532 == 1) = (decide ((a1.size : Int) < ((rd_T61 l0 t533).f2)))) = false := by simpa using c76))
                                (try (have c76b2 : ((t532 == 1) == (decide ((a1.size : Int) < ((rd_T61 l0 t533).f2)))) = false := by simpa using c76))
                                (try (have c76b3 : ¬ ((t532 == 1) = (decide ((a1.size : Int) < ((rd_T61 l0 t533).f2)))) := by simpa using c76))
                                clear c76
                                exact absurd ((Option.some.inj H).trans ht) (by decide)
                        · rw [if_neg c55] at H
                          exact absurd H (by simp)
                      · rw [if_neg c54] at H
                        exact absurd H (by simp)
                    · replace c53 := Bool.eq_false_iff.mpr c53
                      subst c53
                      have H1 : (if t532 = 1 then (if a1.toList = ([] : List UInt8) then (some true) else (if t532 = 3 then (some (a1.toList != ([] : List UInt8))) else (some false))) else (if t532 = 3 then (some (a1.toList != ([] : List UInt8))) else (some false))) = some r := by rw [if_neg (show ¬ (false = true) by decide)] at H; exact H
                      clear H
                      have H := H1
                      clear H1
                      by_cases c95 : t532 = 1
                      · rw [if_pos c95] at H
                        have c95b0 : (t532 == 1) = true := beq_iff_eq.mpr c95
                        have c95b1 : (t532 != 1) = false := bne_eq_false_iff_eq.mpr c95
                        clear c95
                        by_cases c96 : a1.toList = ([] : List UInt8)
                        · rw [if_pos c96] at H
                          have c96b0 : (a1.toList == ([] : List UInt8)) = true := beq_iff_eq.mpr c96
                          have c96b1 : (a1.toList != ([] : List UInt8)) = false := bne_eq_false_iff_eq.mpr c96
                          clear c96
                          obtain rfl := Option.some.inj H
                          have hnb97 := NB540_535.out
                          have hnc97 := NB535_540.out
                          have hcz98_0 : wc.cell? ⟨gb540, 0, none⟩ = some (.slice Ao25 t536.length co25) := (blk_cell BK540.out 0).trans rfl
                          have hfz98_0 := blk_frozen BK540.out 0
                          go_wp2_with (first | ((with_reducible refine gate_callee (f := 19) rfl ?_); refine goesL_ (some 90) rfl rfl Tryd.func19 (by kernel_rfl) rfl #[.agg #[.slice Ao25 t536.length co25], .string a1] rfl (by (try simp only [List.map_toArray, List.map_cons, List.map_nil]); first | done | rfl | (simp only [List.length_drop, List.length_take]; rfl)) ?_; (with_reducible refine (trie_Extends.calls kj18 _ _ t536 a1 false _ ?side1 ?side2 A47.out).mono ?_); (case side1 => repeat (first | exact (Kd.R_reads' HO_541000.out).2.2 | (with_reducible refine Kd.C_alloc ?_ _) | (with_reducible refine Kd.C_drewN ?_ _) | (with_reducible refine Kd.C_drew ?_))); (case side2 => exact (Kd.R_reads' HO_541000.out).2.1); rintro e w99 ⟨rfl, hb⟩; refine ⟨_, rfl, ?_⟩; have n0_ := Aside0.mk (Kd.R_below (by (with_reducible repeat (first | apply Kd.R_alloc | apply Kd.R_drewN | apply Kd.R_drew)); exact HO_541000.out) hb); have n1_ := Aside0.mk (blk_below (g := gb535) (o := .cells #[.int .i64 t532, .int .i64 t533] 55 (0, 0)) (by (with_reducible repeat (first | refine blk_drewN ?_ _ | refine blk_drew ?_ | refine blk_alloc ?_ _)); exact BK535.out) hb); have n2_ := Aside0.mk (blk_below (g := gb540) (o := .cells #[.slice Ao25 t536.length co25] 24 (0, 0)) (by (with_reducible repeat (first | refine blk_drewN ?_ _ | refine blk_drew ?_ | refine blk_alloc ?_ _)); exact BK540.out) hb); have n3_ := Aside0.mk (below_step (by repeat (first | (with_reducible first | exact HB.out | apply below_alloc | apply pw_below_drewN | apply below_drew1 | refine below_set ?_ GE535.out | refine below_set ?_ GE540.out) | exact HB.out)) hb); clear HO_541000; clear BK535; clear BK540; clear HB; have HO_541000 := n0_; have BK535 := n1_; have BK540 := n2_; have HB := n3_; clear n0_ n1_ n2_ n3_; (try clear hb); (try clear hb2); (try clear hk); (try clear hi); have hcz100_0 : w99.cell? ⟨gb535, 0, none⟩ = some (.int .i64 t532) := (blk_cell BK535.out 0).trans rfl; have hcz100_1 : w99.cell? ⟨gb535, 1, none⟩ = some (.int .i64 t533) := (blk_cell BK535.out 1).trans rfl; have hfz100_0 := blk_frozen BK535.out 0; have hfz100_1 := blk_frozen BK535.out 1))
                          go_ret
                          exact ⟨by first | rfl | (simp [errW_none, errW_some] <;> rfl) | (simp [*, errW_none, errW_some] <;> rfl) | (simp [nil_flag ht]), by repeat (first | (with_reducible first | exact HB.out | apply below_alloc | apply pw_below_drewN | apply below_drew1 | refine below_set ?_ GE535.out | refine below_set ?_ GE540.out) | exact HB.out)⟩
                        · rw [if_neg c96] at H
                          have c96b0 : (a1.toList == ([] : List UInt8)) = false := beq_eq_false_iff_ne.mpr c96
                          have c96b1 : (a1.toList != ([] : List UInt8)) = true := bne_iff_ne.mpr c96
                          by_cases c101 : t532 = 3
                          · rw [if_pos c101] at H
                            have c101b0 : (t532 == 3) = true := beq_iff_eq.mpr c101
                            have c101b1 : (t532 != 3) = false := bne_eq_false_iff_eq.mpr c101
                            clear c101
                            obtain rfl := Option.some.inj H
                            have hnb102 := NB540_535.out
                            have hnc102 := NB535_540.out
                            have hcz103_0 : wc.cell? ⟨gb540, 0, none⟩ = some (.slice Ao25 t536.length co25) := (blk_cell BK540.out 0).trans rfl
                            have hfz103_0 := blk_frozen BK540.out 0
                            go_wp2_with (first | ((with_reducible refine gate_callee (f := 19) rfl ?_); refine goesL_ (some 90) rfl rfl Tryd.func19 (by kernel_rfl) rfl #[.agg #[.slice Ao25 t536.length co25], .string a1] rfl (by (try simp only [List.map_toArray, List.map_cons, List.map_nil]); first | done | rfl | (simp only [List.length_drop, List.length_take]; rfl)) ?_; (with_reducible refine (trie_Extends.calls kj18 _ _ t536 a1 false _ ?side1 ?side2 A47.out).mono ?_); (case side1 => repeat (first | exact (Kd.R_reads' HO_541000.out).2.2 | (with_reducible refine Kd.C_alloc ?_ _) | (with_reducible refine Kd.C_drewN ?_ _) | (with_reducible refine Kd.C_drew ?_))); (case side2 => exact (Kd.R_reads' HO_541000.out).2.1); rintro e w104 ⟨rfl, hb⟩; refine ⟨_, rfl, ?_⟩; have n0_ := Aside0.mk (Kd.R_below (by (with_reducible repeat (first | apply Kd.R_alloc | apply Kd.R_drewN | apply Kd.R_drew)); exact HO_541000.out) hb); have n1_ := Aside0.mk (blk_below (g := gb535) (o := .cells #[.int .i64 t532, .int .i64 t533] 55 (0, 0)) (by (with_reducible repeat (first | refine blk_drewN ?_ _ | refine blk_drew ?_ | refine blk_alloc ?_ _)); exact BK535.out) hb); have n2_ := Aside0.mk (blk_below (g := gb540) (o := .cells #[.slice Ao25 t536.length co25] 24 (0, 0)) (by (with_reducible repeat (first | refine blk_drewN ?_ _ | refine blk_drew ?_ | refine blk_alloc ?_ _)); exact BK540.out) hb); have n3_ := Aside0.mk (below_step (by repeat (first | (with_reducible first | exact HB.out | apply below_alloc | apply pw_below_drewN | apply below_drew1 | refine below_set ?_ GE535.out | refine below_set ?_ GE540.out) | exact HB.out)) hb); clear HO_541000; clear BK535; clear BK540; clear HB; have HO_541000 := n0_; have BK535 := n1_; have BK540 := n2_; have HB := n3_; clear n0_ n1_ n2_ n3_; (try clear hb); (try clear hb2); (try clear hk); (try clear hi); have hcz105_0 : w104.cell? ⟨gb535, 0, none⟩ = some (.int .i64 t532) := (blk_cell BK535.out 0).trans rfl; have hcz105_1 : w104.cell? ⟨gb535, 1, none⟩ = some (.int .i64 t533) := (blk_cell BK535.out 1).trans rfl; have hfz105_0 := blk_frozen BK535.out 0; have hfz105_1 := blk_frozen BK535.out 1))
                            go_ret
                            exact ⟨by first | rfl | (simp [errW_none, errW_some] <;> rfl) | (simp [*, errW_none, errW_some] <;> rfl) | (simp [nil_flag ht]), by repeat (first | (with_reducible first | exact HB.out | apply below_alloc | apply pw_below_drewN | apply below_drew1 | refine below_set ?_ GE535.out | refine below_set ?_ GE540.out) | exact HB.out)⟩
                          · rw [if_neg c101] at H
                            have c101b0 : (t532 == 3) = false := beq_eq_false_iff_ne.mpr c101
                            have c101b1 : (t532 != 3) = true := bne_iff_ne.mpr c101
                            exact absurd ((Option.some.inj H).trans ht) (by decide)
                      · rw [if_neg c95] at H
                        have c95b0 : (t532 == 1) = false := beq_eq_false_iff_ne.mpr c95
                        have c95b1 : (t532 != 1) = true := bne_iff_ne.mpr c95
                        by_cases c110 : t532 = 3
                        · rw [if_pos c110] at H
                          have c110b0 : (t532 == 3) = true := beq_iff_eq.mpr c110
                          have c110b1 : (t532 != 3) = false := bne_eq_false_iff_eq.mpr c110
                          clear c110
                          obtain rfl := Option.some.inj H
                          have hnb111 := NB540_535.out
                          have hnc111 := NB535_540.out
                          have hcz112_0 : wc.cell? ⟨gb540, 0, none⟩ = some (.slice Ao25 t536.length co25) := (blk_cell BK540.out 0).trans rfl
                          have hfz112_0 := blk_frozen BK540.out 0
                          go_wp2_with (first | ((with_reducible refine gate_callee (f := 19) rfl ?_); refine goesL_ (some 90) rfl rfl Tryd.func19 (by kernel_rfl) rfl #[.agg #[.slice Ao25 t536.length co25], .string a1] rfl (by (try simp only [List.map_toArray, List.map_cons, List.map_nil]); first | done | rfl | (simp only [List.length_drop, List.length_take]; rfl)) ?_; (with_reducible refine (trie_Extends.calls kj18 _ _ t536 a1 false _ ?side1 ?side2 A47.out).mono ?_); (case side1 => repeat (first | exact (Kd.R_reads' HO_541000.out).2.2 | (with_reducible refine Kd.C_alloc ?_ _) | (with_reducible refine Kd.C_drewN ?_ _) | (with_reducible refine Kd.C_drew ?_))); (case side2 => exact (Kd.R_reads' HO_541000.out).2.1); rintro e w113 ⟨rfl, hb⟩; refine ⟨_, rfl, ?_⟩; have n0_ := Aside0.mk (Kd.R_below (by (with_reducible repeat (first | apply Kd.R_alloc | apply Kd.R_drewN | apply Kd.R_drew)); exact HO_541000.out) hb); have n1_ := Aside0.mk (blk_below (g := gb535) (o := .cells #[.int .i64 t532, .int .i64 t533] 55 (0, 0)) (by (with_reducible repeat (first | refine blk_drewN ?_ _ | refine blk_drew ?_ | refine blk_alloc ?_ _)); exact BK535.out) hb); have n2_ := Aside0.mk (blk_below (g := gb540) (o := .cells #[.slice Ao25 t536.length co25] 24 (0, 0)) (by (with_reducible repeat (first | refine blk_drewN ?_ _ | refine blk_drew ?_ | refine blk_alloc ?_ _)); exact BK540.out) hb); have n3_ := Aside0.mk (below_step (by repeat (first | (with_reducible first | exact HB.out | apply below_alloc | apply pw_below_drewN | apply below_drew1 | refine below_set ?_ GE535.out | refine below_set ?_ GE540.out) | exact HB.out)) hb); clear HO_541000; clear BK535; clear BK540; clear HB; have HO_541000 := n0_; have BK535 := n1_; have BK540 := n2_; have HB := n3_; clear n0_ n1_ n2_ n3_; (try clear hb); (try clear hb2); (try clear hk); (try clear hi); have hcz114_0 : w113.cell? ⟨gb535, 0, none⟩ = some (.int .i64 t532) := (blk_cell BK535.out 0).trans rfl; have hcz114_1 : w113.cell? ⟨gb535, 1, none⟩ = some (.int .i64 t533) := (blk_cell BK535.out 1).trans rfl; have hfz114_0 := blk_frozen BK535.out 0; have hfz114_1 := blk_frozen BK535.out 1))
                          go_ret
                          exact ⟨by first | rfl | (simp [errW_none, errW_some] <;> rfl) | (simp [*, errW_none, errW_some] <;> rfl) | (simp [nil_flag ht]), by repeat (first | (with_reducible first | exact HB.out | apply below_alloc | apply pw_below_drewN | apply below_drew1 | refine below_set ?_ GE535.out | refine below_set ?_ GE540.out) | exact HB.out)⟩
                        · rw [if_neg c110] at H
                          have c110b0 : (t532 == 3) = false := beq_eq_false_iff_ne.mpr c110
                          have c110b1 : (t532 != 3) = true := bne_iff_ne.mpr c110
                          exact absurd ((Option.some.inj H).trans ht) (by decide)
          · rw [if_neg c16] at H
            have c16b0 : (t534 == 0) = false := beq_eq_false_iff_ne.mpr c16
            have c16b1 : (t534 != 0) = true := bne_iff_ne.mpr c16
            obtain rfl := Option.some.inj H
            go_wp2_with (first | ((with_reducible refine gate_callee (f := 38) rfl ?_); refine goesL_ (some 32) rfl rfl Tryd.func38 (by kernel_rfl) rfl #[.slice A0 l0.length c0, .string a1, .bool false] rfl (by (try simp only [List.map_toArray, List.map_cons, List.map_nil]); first | done | rfl | (simp only [List.length_drop, List.length_take]; rfl)) ?_; (with_reducible refine (dialplan_Analyze.calls kj5 _ _ l0 a1 false t532 t533 t534 _ ?side1 ?side2 A15.out).mono ?_); (case side1 => repeat (first | exact (Kd.C_below HR0.out HB.out) | (with_reducible refine Kd.C_alloc ?_ _) | (with_reducible refine Kd.C_drewN ?_ _) | (with_reducible refine Kd.C_drew ?_))); (case side2 => exact HC0.out); rintro e w119 ⟨rfl, hb⟩; refine ⟨_, rfl, ?_⟩; have n0_ := Aside0.mk (below_step (by repeat (first | (with_reducible first | exact HB.out | apply below_alloc | apply pw_below_drewN | apply below_drew1) | exact HB.out)) hb); clear HB; have HB := n0_; clear n0_; (try clear hb); (try clear hb2); (try clear hk); (try clear hi)) | ((with_reducible refine gate_dst (N := 5) rfl ?_); (try (refine gate_guard (by rfl) ?_; dsimp only)); refine box_event ?hg (N := 5) ?hd (cs := #[.int .i64 0, .int .i64 0]) (t := 55) ?hr ?_; (case hd => rfl); (case hg => rfl); (case hr => first | (go_simp; done) | (go_simp; rfl)); intro gb535 hg w120 hbox hb; have n0_ := Aside0.mk (below_step (by repeat (first | (with_reducible first | exact HB.out | apply below_alloc | apply pw_below_drewN | apply below_drew1) | exact HB.out)) hb); have n1_ := Aside0.mk (hbox); have n2_ := Aside0.mk ((by rw [hg]; exact (below_size (by repeat (first | (with_reducible first | exact HB.out | apply below_alloc | apply pw_below_drewN | apply below_drew1) | exact HB.out))) : w.heap.size ≤ gb535)); have n3_ := Aside0.mk ((by rw [hg]; exact (below_size (by repeat (first | (with_reducible first | exact HB.out | apply below_alloc | apply pw_below_drewN | apply below_drew1) | exact HB.out))) : w.heap.size ≤ gb535)); clear HB; have HB := n0_; have BK535 := n1_; have GW535 := n2_; have GE535 := n3_; clear n0_ n1_ n2_ n3_; clear hb hbox hg; have hcz121_0 : w120.cell? ⟨gb535, 0, none⟩ = some (.int .i64 0) := (blk_cell BK535.out 0).trans rfl; have hcz121_1 : w120.cell? ⟨gb535, 1, none⟩ = some (.int .i64 0) := (blk_cell BK535.out 1).trans rfl; have hfz121_0 := blk_frozen BK535.out 0; have hfz121_1 := blk_frozen BK535.out 1))
            go_ret
            exact ⟨by first | rfl | (simp [errW_none, errW_some] <;> rfl) | (simp [*, errW_none, errW_some] <;> rfl) | (simp [nil_flag ht]), by repeat (first | (with_reducible first | exact HB.out | apply below_alloc | apply pw_below_drewN | apply below_drew1 | refine below_set ?_ GE535.out) | exact HB.out)⟩
  · rw [if_neg c5] at H
    have c5b0 : (t530 == 0) = false := beq_eq_false_iff_ne.mpr c5
    have c5b1 : (t530 != 0) = true := bne_iff_ne.mpr c5
    exact absurd ((Option.some.inj H).trans ht) (by decide)
end Go.Proofs.YtmendieiikmbhaaDoor.Fn
