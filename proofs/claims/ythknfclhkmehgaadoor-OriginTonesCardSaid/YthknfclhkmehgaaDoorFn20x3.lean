-- printed by a program of this session, out of the translation; Lean checks it
import Derived.Test.YthknfclhkmehgaaDoorFn0
import Derived.Test.YthknfclhkmehgaaDoorFn2
import Derived.Test.YthknfclhkmehgaaDoorFn10
import Derived.Test.YthknfclhkmehgaaDoorFn18
import Derived.Test.YthknfclhkmehgaaDoorESaneO
namespace Go.Proofs.YthknfclhkmehgaaDoor.Fn
open Go.RowKit Go.Proofs.YthknfclhkmehgaaDoorW.PrintWords Go.Proofs.YthknfclhkmehgaaDoorW.PrintLast Go.Proofs.YthknfclhkmehgaaDoorW.PrintMore
attribute [local go_sem] max2_int min2_int max_two min_two max_three min_three max_four min_four   -- for this text's walks alone
set_option linter.unusedVariables false
set_option linter.unusedSimpArgs false

attribute [local go_sem high] eqA45
/-! ### crossbarlaw16_OriginTones: function 11 -/
noncomputable def crossbarlaw16_OriginTones.j0 : Nat → Bool → Int → ByteArray → Bool → Int → Int → Bool → Option (Bool)
  | 0, _, _, _, _, _, _, _ => none
  | k + 1, x28, x481000, x481001, x481002, x481003, x481004, x481005 => if x28 = true then (some (x481004 == 1)) else (if x481000 = 3 then (some (x481004 == 4)) else (if x481000 = 5 then (some (x481004 == 3)) else (some (x481004 == 2))))
noncomputable def crossbarlaw16_OriginTones.f (k : Nat) (l0 : List (S35)) (l1 : List (S47)) : Option (Bool) := (crossbarlaw16_sane.f).bind fun t472 => (if t472 = true then ((crossbarlaw16_few.f k l0 l1).bind fun t473 => (if t473 = true then ((crossbarlaw16_run.f k l0 l1).bind fun bt474 => (if bt474.1 = 0 then (if bt474.2.2.2.2.1 = 0 then (some true) else (some (bt474.2.2.2.2.1 == 2))) else (if bt474.1 = 1 then (crossbarlaw16_OriginTones.j0 k (bt474.2.1.toList == ([] : List UInt8)) bt474.1 bt474.2.1 bt474.2.2.1 bt474.2.2.2.1 bt474.2.2.2.2.1 bt474.2.2.2.2.2) else (crossbarlaw16_OriginTones.j0 k false bt474.1 bt474.2.1 bt474.2.2.1 bt474.2.2.2.1 bt474.2.2.2.2.1 bt474.2.2.2.2.2)))) else (some true))) else (some false))
theorem crossbarlaw16_OriginTones.mono_l : ∀ k, (∀ y0 y1 y2 y3 y4 y5 y6, LeO (crossbarlaw16_OriginTones.j0 k y0 y1 y2 y3 y4 y5 y6) (crossbarlaw16_OriginTones.j0 (k + 1) y0 y1 y2 y3 y4 y5 y6))
  | 0 => fun _ _ _ _ _ _ _ r h => by simp [crossbarlaw16_OriginTones.j0] at h
  | k + 1 => by
    have ih0 := crossbarlaw16_OriginTones.mono_l k
    · intro y0 y1 y2 y3 y4 y5 y6
      unfold crossbarlaw16_OriginTones.j0
      repeat' first
      | (with_reducible exact ih0 _ _ _ _ _ _ _)
      | (with_reducible exact crossbarlaw16_few.mono _ _ _)
      | (with_reducible exact crossbarlaw16_run.mono _ _ _)
      | (with_reducible exact LeO.refl _)
      | (with_reducible exact LeO.none _)
      | (with_reducible refine LeO.ite ?_ ?_)
      | (with_reducible refine LeO.bind ?_ (fun _ => ?_))
      | exact ih0 _ _ _ _ _ _ _
      | exact crossbarlaw16_few.mono _ _ _
      | exact crossbarlaw16_run.mono _ _ _
      | exact LeO.none _
      | refine LeO.ite ?_ ?_
      | refine LeO.bind ?_ (fun _ => ?_)
theorem crossbarlaw16_OriginTones.mono : ∀ a0 a1 k, LeO (crossbarlaw16_OriginTones.f k a0 a1) (crossbarlaw16_OriginTones.f (k + 1) a0 a1) := by
  intro a0 a1 k
  have ih0 := crossbarlaw16_OriginTones.mono_l k
  unfold crossbarlaw16_OriginTones.f
  repeat' first
      | (with_reducible exact ih0 _ _ _ _ _ _ _)
      | (with_reducible exact crossbarlaw16_few.mono _ _ _)
      | (with_reducible exact crossbarlaw16_run.mono _ _ _)
      | (with_reducible exact LeO.refl _)
      | (with_reducible exact LeO.none _)
      | (with_reducible refine LeO.ite ?_ ?_)
      | (with_reducible refine LeO.bind ?_ (fun _ => ?_))
      | exact ih0 _ _ _ _ _ _ _
      | exact crossbarlaw16_few.mono _ _ _
      | exact crossbarlaw16_run.mono _ _ _
      | exact LeO.none _
      | refine LeO.ite ?_ ?_
      | refine LeO.bind ?_ (fun _ => ?_)
set_option maxHeartbeats 8000000 in
set_option maxRecDepth 100000 in
theorem crossbarlaw16_OriginTones.calls (k : Nat) (A0 : Option Addr) (c0 : Nat) (l0 : List (S35)) (A1 : Option Addr) (c1 : Nat) (l1 : List (S47)) (r : Bool) (ht : r = true) (w : World) (hr0 : Kd.C k35 w A0 l0.length l0) (hc0 : l0.length ≤ c0) (hr1 : Kd.C k47 w A1 l1.length l1) (hc1 : l1.length ≤ c1) (h : crossbarlaw16_OriginTones.f k l0 l1 = some r) :
    Calls Tryd.prog 11 #[.slice A0 l0.length c0, .slice A1 l1.length c1] w fun e w' => e = .returned (.bool r) ∧ Below w.heap.size w w' := by
  have hu58 := Tryd.underlying58
  have HR0 := Aside0.mk hr0
  have HC0 := Aside0.mk hc0
  clear hr0 hc0
  have HR1 := Aside0.mk hr1
  have HC1 := Aside0.mk hc1
  clear hr1 hc1
  have HB := Aside0.mk (Below.refl w.heap.size w)
  have H : ((crossbarlaw16_sane.f).bind fun t472 => (if t472 = true then ((crossbarlaw16_few.f k l0 l1).bind fun t473 => (if t473 = true then ((crossbarlaw16_run.f k l0 l1).bind fun bt474 => (if bt474.1 = 0 then (if bt474.2.2.2.2.1 = 0 then (some true) else (some (bt474.2.2.2.2.1 == 2))) else (if bt474.1 = 1 then (crossbarlaw16_OriginTones.j0 k (bt474.2.1.toList == ([] : List UInt8)) bt474.1 bt474.2.1 bt474.2.2.1 bt474.2.2.2.1 bt474.2.2.2.2.1 bt474.2.2.2.2.2) else (crossbarlaw16_OriginTones.j0 k false bt474.1 bt474.2.1 bt474.2.2.1 bt474.2.2.2.1 bt474.2.2.2.2.1 bt474.2.2.2.2.2)))) else (some true))) else (some false))) = some r := h
  clear h
  replace H := Option.bind_eq_some_iff.mp H
  obtain ⟨t472, A30, H⟩ := H
  replace H : (if t472 = true then ((crossbarlaw16_few.f k l0 l1).bind fun t473 => (if t473 = true then ((crossbarlaw16_run.f k l0 l1).bind fun bt474 => (if bt474.1 = 0 then (if bt474.2.2.2.2.1 = 0 then (some true) else (some (bt474.2.2.2.2.1 == 2))) else (if bt474.1 = 1 then (crossbarlaw16_OriginTones.j0 k (bt474.2.1.toList == ([] : List UInt8)) bt474.1 bt474.2.1 bt474.2.2.1 bt474.2.2.2.1 bt474.2.2.2.2.1 bt474.2.2.2.2.2) else (crossbarlaw16_OriginTones.j0 k false bt474.1 bt474.2.1 bt474.2.2.1 bt474.2.2.2.1 bt474.2.2.2.2.1 bt474.2.2.2.2.2)))) else (some true))) else (some false)) = some r := H
  have A3 := Aside0.mk A30
  clear A30
  by_cases c4 : t472 = true
  · subst c4
    have H1 : ((crossbarlaw16_few.f k l0 l1).bind fun t473 => (if t473 = true then ((crossbarlaw16_run.f k l0 l1).bind fun bt474 => (if bt474.1 = 0 then (if bt474.2.2.2.2.1 = 0 then (some true) else (some (bt474.2.2.2.2.1 == 2))) else (if bt474.1 = 1 then (crossbarlaw16_OriginTones.j0 k (bt474.2.1.toList == ([] : List UInt8)) bt474.1 bt474.2.1 bt474.2.2.1 bt474.2.2.2.1 bt474.2.2.2.2.1 bt474.2.2.2.2.2) else (crossbarlaw16_OriginTones.j0 k false bt474.1 bt474.2.1 bt474.2.2.1 bt474.2.2.2.1 bt474.2.2.2.2.1 bt474.2.2.2.2.2)))) else (some true))) = some r := by rw [if_pos rfl] at H; exact H
    clear H
    have H := H1
    clear H1
    replace H := Option.bind_eq_some_iff.mp H
    obtain ⟨t473, A50, H⟩ := H
    replace H : (if t473 = true then ((crossbarlaw16_run.f k l0 l1).bind fun bt474 => (if bt474.1 = 0 then (if bt474.2.2.2.2.1 = 0 then (some true) else (some (bt474.2.2.2.2.1 == 2))) else (if bt474.1 = 1 then (crossbarlaw16_OriginTones.j0 k (bt474.2.1.toList == ([] : List UInt8)) bt474.1 bt474.2.1 bt474.2.2.1 bt474.2.2.2.1 bt474.2.2.2.2.1 bt474.2.2.2.2.2) else (crossbarlaw16_OriginTones.j0 k false bt474.1 bt474.2.1 bt474.2.2.1 bt474.2.2.2.1 bt474.2.2.2.2.1 bt474.2.2.2.2.2)))) else (some true)) = some r := H
    have A5 := Aside0.mk A50
    clear A50
    by_cases c6 : t473 = true
    · subst c6
      have H1 : ((crossbarlaw16_run.f k l0 l1).bind fun bt474 => (if bt474.1 = 0 then (if bt474.2.2.2.2.1 = 0 then (some true) else (some (bt474.2.2.2.2.1 == 2))) else (if bt474.1 = 1 then (crossbarlaw16_OriginTones.j0 k (bt474.2.1.toList == ([] : List UInt8)) bt474.1 bt474.2.1 bt474.2.2.1 bt474.2.2.2.1 bt474.2.2.2.2.1 bt474.2.2.2.2.2) else (crossbarlaw16_OriginTones.j0 k false bt474.1 bt474.2.1 bt474.2.2.1 bt474.2.2.2.1 bt474.2.2.2.2.1 bt474.2.2.2.2.2)))) = some r := by rw [if_pos rfl] at H; exact H
      clear H
      have H := H1
      clear H1
      replace H := Option.bind_eq_some_iff.mp H
      obtain ⟨⟨t474, t475, t476, t477, t478, t479⟩, A70, H⟩ := H
      replace H : (if t474 = 0 then (if t478 = 0 then (some true) else (some (t478 == 2))) else (if t474 = 1 then (crossbarlaw16_OriginTones.j0 k (t475.toList == ([] : List UInt8)) t474 t475 t476 t477 t478 t479) else (crossbarlaw16_OriginTones.j0 k false t474 t475 t476 t477 t478 t479))) = some r := H
      have A7 := Aside0.mk A70
      clear A70
      by_cases c8 : t474 = 0
      · rw [if_pos c8] at H
        have c8b0 : (t474 == 0) = true := beq_iff_eq.mpr c8
        have c8b1 : (t474 != 0) = false := bne_eq_false_iff_eq.mpr c8
        clear c8
        by_cases c9 : t478 = 0
        · rw [if_pos c9] at H
          have c9b0 : (t478 == 0) = true := beq_iff_eq.mpr c9
          have c9b1 : (t478 != 0) = false := bne_eq_false_iff_eq.mpr c9
          clear c9
          obtain rfl := Option.some.inj H
          clear ht
          go_enter Tryd.func11, Tryd.ntmps11
          go_wp2_with (first | ((with_reducible refine gate_callee (f := 22) rfl ?_); refine goesL_ (some 6) rfl rfl Tryd.func22 (by kernel_rfl) rfl #[] rfl (by (try simp only [List.map_toArray, List.map_cons, List.map_nil]); first | done | rfl | (simp only [List.length_drop, List.length_take]; rfl)) ?_; (with_reducible refine (crossbarlaw16_sane.calls  true _ A3.out).mono ?_); rintro e w10 ⟨rfl, hb⟩; refine ⟨_, rfl, ?_⟩; have n0_ := Aside0.mk (below_step (by repeat (first | (with_reducible first | exact HB.out | apply below_alloc | apply pw_below_drewN | apply below_drew1) | exact HB.out)) hb); clear HB; have HB := n0_; clear n0_; (try clear hb); (try clear hb2); (try clear hk); (try clear hi)) | ((with_reducible refine gate_callee (f := 31) rfl ?_); refine goesL_ (some 10) rfl rfl Tryd.func31 (by kernel_rfl) rfl #[.slice A0 l0.length c0, .slice A1 l1.length c1] rfl (by (try simp only [List.map_toArray, List.map_cons, List.map_nil]); first | done | rfl | (simp only [List.length_drop, List.length_take]; rfl)) ?_; (with_reducible refine (crossbarlaw16_few.calls k _ _ l0 _ _ l1 true _ ?side1 ?side2 ?side3 ?side4 A5.out).mono ?_); (case side1 => repeat (first | exact (Kd.C_below HR0.out HB.out) | (with_reducible refine Kd.C_alloc ?_ _) | (with_reducible refine Kd.C_drewN ?_ _) | (with_reducible refine Kd.C_drew ?_))); (case side2 => exact HC0.out); (case side3 => repeat (first | exact (Kd.C_below HR1.out HB.out) | (with_reducible refine Kd.C_alloc ?_ _) | (with_reducible refine Kd.C_drewN ?_ _) | (with_reducible refine Kd.C_drew ?_))); (case side4 => exact HC1.out); rintro e w' ⟨rfl, ⟨nd, rfl⟩⟩; refine ⟨_, rfl, ?_⟩; (try (rw [drewN_self w10]; generalize hq_ : World.drewN w10 _ = w10; have n0_ : Aside0 (Below w.heap.size w w10) := ⟨by rw [← hq_]; exact (by repeat (first | (with_reducible first | exact HB.out | apply below_alloc | apply pw_below_drewN | apply below_drew1) | exact HB.out))⟩; clear HB hq_; have HB := n0_; clear n0_))) | ((with_reducible refine gate_callee (f := 32) rfl ?_); refine goesL_ (some 14) rfl rfl Tryd.func32 (by kernel_rfl) rfl #[.slice A0 l0.length c0, .slice A1 l1.length c1] rfl (by (try simp only [List.map_toArray, List.map_cons, List.map_nil]); first | done | rfl | (simp only [List.length_drop, List.length_take]; rfl)) ?_; (with_reducible refine (crossbarlaw16_run.calls k _ _ l0 _ _ l1 t474 t475 t476 t477 t478 t479 _ ?side1 ?side2 ?side3 ?side4 A7.out).mono ?_); (case side1 => repeat (first | exact (Kd.C_below HR0.out HB.out) | (with_reducible refine Kd.C_alloc ?_ _) | (with_reducible refine Kd.C_drewN ?_ _) | (with_reducible refine Kd.C_drew ?_))); (case side2 => exact HC0.out); (case side3 => repeat (first | exact (Kd.C_below HR1.out HB.out) | (with_reducible refine Kd.C_alloc ?_ _) | (with_reducible refine Kd.C_drewN ?_ _) | (with_reducible refine Kd.C_drew ?_))); (case side4 => exact HC1.out); rintro e w11 ⟨rfl, hb⟩; refine ⟨_, rfl, ?_⟩; have n0_ := Aside0.mk (below_step (by repeat (first | (with_reducible first | exact HB.out | apply below_alloc | apply pw_below_drewN | apply below_drew1) | exact HB.out)) hb); clear HB; have HB := n0_; clear n0_; (try clear hb); (try clear hb2); (try clear hk); (try clear hi)) | ((with_reducible refine gate_dst (N := 5) rfl ?_); refine box_event ?hg (N := 5) ?hd (cs := #[.int .i64 0, .string (⟨#[]⟩ : ByteArray), .bool false, .int .i64 0, .int .i64 0, .bool false]) (t := 58) ?hr ?_; (case hd => rfl); (case hg => rfl); (case hr => first | (go_simp; done) | (go_simp; rfl)); intro gb480 hg w12 hbox hb; have n0_ := Aside0.mk (below_step (by repeat (first | (with_reducible first | exact HB.out | apply below_alloc | apply pw_below_drewN | apply below_drew1) | exact HB.out)) hb); have n1_ := Aside0.mk (hbox); have n2_ := Aside0.mk ((by rw [hg]; exact (below_size (by repeat (first | (with_reducible first | exact HB.out | apply below_alloc | apply pw_below_drewN | apply below_drew1) | exact HB.out))) : w.heap.size ≤ gb480)); have n3_ := Aside0.mk ((by rw [hg]; exact (below_size (by repeat (first | (with_reducible first | exact HB.out | apply below_alloc | apply pw_below_drewN | apply below_drew1) | exact HB.out))) : w.heap.size ≤ gb480)); clear HB; have HB := n0_; have BK480 := n1_; have GW480 := n2_; have GE480 := n3_; clear n0_ n1_ n2_ n3_; clear hb hbox hg; have hcz13_0 : w12.cell? ⟨gb480, 0, none⟩ = some (.int .i64 0) := (blk_cell BK480.out 0).trans rfl; have hcz13_1 : w12.cell? ⟨gb480, 1, none⟩ = some (.string (⟨#[]⟩ : ByteArray)) := (blk_cell BK480.out 1).trans rfl; have hcz13_2 : w12.cell? ⟨gb480, 2, none⟩ = some (.bool false) := (blk_cell BK480.out 2).trans rfl; have hcz13_3 : w12.cell? ⟨gb480, 3, none⟩ = some (.int .i64 0) := (blk_cell BK480.out 3).trans rfl; have hcz13_4 : w12.cell? ⟨gb480, 4, none⟩ = some (.int .i64 0) := (blk_cell BK480.out 4).trans rfl; have hcz13_5 : w12.cell? ⟨gb480, 5, none⟩ = some (.bool false) := (blk_cell BK480.out 5).trans rfl; have hfz13_0 := blk_frozen BK480.out 0; have hfz13_1 := blk_frozen BK480.out 1; have hfz13_2 := blk_frozen BK480.out 2; have hfz13_3 := blk_frozen BK480.out 3; have hfz13_4 := blk_frozen BK480.out 4; have hfz13_5 := blk_frozen BK480.out 5))
          go_ret
          exact ⟨by first | rfl | (simp [errW_none, errW_some] <;> rfl) | (simp [*, errW_none, errW_some] <;> rfl), by repeat (first | (with_reducible first | exact HB.out | apply below_alloc | apply pw_below_drewN | apply below_drew1 | refine below_set ?_ GE480.out) | exact HB.out)⟩
        · rw [if_neg c9] at H
          have c9b0 : (t478 == 0) = false := beq_eq_false_iff_ne.mpr c9
          have c9b1 : (t478 != 0) = true := bne_iff_ne.mpr c9
          obtain rfl := Option.some.inj H
          clear ht
          go_enter Tryd.func11, Tryd.ntmps11
          go_wp2_with (first | ((with_reducible refine gate_callee (f := 22) rfl ?_); refine goesL_ (some 6) rfl rfl Tryd.func22 (by kernel_rfl) rfl #[] rfl (by (try simp only [List.map_toArray, List.map_cons, List.map_nil]); first | done | rfl | (simp only [List.length_drop, List.length_take]; rfl)) ?_; (with_reducible refine (crossbarlaw16_sane.calls  true _ A3.out).mono ?_); rintro e w14 ⟨rfl, hb⟩; refine ⟨_, rfl, ?_⟩; have n0_ := Aside0.mk (below_step (by repeat (first | (with_reducible first | exact HB.out | apply below_alloc | apply pw_below_drewN | apply below_drew1) | exact HB.out)) hb); clear HB; have HB := n0_; clear n0_; (try clear hb); (try clear hb2); (try clear hk); (try clear hi)) | ((with_reducible refine gate_callee (f := 31) rfl ?_); refine goesL_ (some 10) rfl rfl Tryd.func31 (by kernel_rfl) rfl #[.slice A0 l0.length c0, .slice A1 l1.length c1] rfl (by (try simp only [List.map_toArray, List.map_cons, List.map_nil]); first | done | rfl | (simp only [List.length_drop, List.length_take]; rfl)) ?_; (with_reducible refine (crossbarlaw16_few.calls k _ _ l0 _ _ l1 true _ ?side1 ?side2 ?side3 ?side4 A5.out).mono ?_); (case side1 => repeat (first | exact (Kd.C_below HR0.out HB.out) | (with_reducible refine Kd.C_alloc ?_ _) | (with_reducible refine Kd.C_drewN ?_ _) | (with_reducible refine Kd.C_drew ?_))); (case side2 => exact HC0.out); (case side3 => repeat (first | exact (Kd.C_below HR1.out HB.out) | (with_reducible refine Kd.C_alloc ?_ _) | (with_reducible refine Kd.C_drewN ?_ _) | (with_reducible refine Kd.C_drew ?_))); (case side4 => exact HC1.out); rintro e w' ⟨rfl, ⟨nd, rfl⟩⟩; refine ⟨_, rfl, ?_⟩; (try (rw [drewN_self w14]; generalize hq_ : World.drewN w14 _ = w14; have n0_ : Aside0 (Below w.heap.size w w14) := ⟨by rw [← hq_]; exact (by repeat (first | (with_reducible first | exact HB.out | apply below_alloc | apply pw_below_drewN | apply below_drew1) | exact HB.out))⟩; clear HB hq_; have HB := n0_; clear n0_))) | ((with_reducible refine gate_callee (f := 32) rfl ?_); refine goesL_ (some 14) rfl rfl Tryd.func32 (by kernel_rfl) rfl #[.slice A0 l0.length c0, .slice A1 l1.length c1] rfl (by (try simp only [List.map_toArray, List.map_cons, List.map_nil]); first | done | rfl | (simp only [List.length_drop, List.length_take]; rfl)) ?_; (with_reducible refine (crossbarlaw16_run.calls k _ _ l0 _ _ l1 t474 t475 t476 t477 t478 t479 _ ?side1 ?side2 ?side3 ?side4 A7.out).mono ?_); (case side1 => repeat (first | exact (Kd.C_below HR0.out HB.out) | (with_reducible refine Kd.C_alloc ?_ _) | (with_reducible refine Kd.C_drewN ?_ _) | (with_reducible refine Kd.C_drew ?_))); (case side2 => exact HC0.out); (case side3 => repeat (first | exact (Kd.C_below HR1.out HB.out) | (with_reducible refine Kd.C_alloc ?_ _) | (with_reducible refine Kd.C_drewN ?_ _) | (with_reducible refine Kd.C_drew ?_))); (case side4 => exact HC1.out); rintro e w15 ⟨rfl, hb⟩; refine ⟨_, rfl, ?_⟩; have n0_ := Aside0.mk (below_step (by repeat (first | (with_reducible first | exact HB.out | apply below_alloc | apply pw_below_drewN | apply below_drew1) | exact HB.out)) hb); clear HB; have HB := n0_; clear n0_; (try clear hb); (try clear hb2); (try clear hk); (try clear hi)) | ((with_reducible refine gate_dst (N := 5) rfl ?_); refine box_event ?hg (N := 5) ?hd (cs := #[.int .i64 0, .string (⟨#[]⟩ : ByteArray), .bool false, .int .i64 0, .int .i64 0, .bool false]) (t := 58) ?hr ?_; (case hd => rfl); (case hg => rfl); (case hr => first | (go_simp; done) | (go_simp; rfl)); intro gb480 hg w16 hbox hb; have n0_ := Aside0.mk (below_step (by repeat (first | (with_reducible first | exact HB.out | apply below_alloc | apply pw_below_drewN | apply below_drew1) | exact HB.out)) hb); have n1_ := Aside0.mk (hbox); have n2_ := Aside0.mk ((by rw [hg]; exact (below_size (by repeat (first | (with_reducible first | exact HB.out | apply below_alloc | apply pw_below_drewN | apply below_drew1) | exact HB.out))) : w.heap.size ≤ gb480)); have n3_ := Aside0.mk ((by rw [hg]; exact (below_size (by repeat (first | (with_reducible first | exact HB.out | apply below_alloc | apply pw_below_drewN | apply below_drew1) | exact HB.out))) : w.heap.size ≤ gb480)); clear HB; have HB := n0_; have BK480 := n1_; have GW480 := n2_; have GE480 := n3_; clear n0_ n1_ n2_ n3_; clear hb hbox hg; have hcz17_0 : w16.cell? ⟨gb480, 0, none⟩ = some (.int .i64 0) := (blk_cell BK480.out 0).trans rfl; have hcz17_1 : w16.cell? ⟨gb480, 1, none⟩ = some (.string (⟨#[]⟩ : ByteArray)) := (blk_cell BK480.out 1).trans rfl; have hcz17_2 : w16.cell? ⟨gb480, 2, none⟩ = some (.bool false) := (blk_cell BK480.out 2).trans rfl; have hcz17_3 : w16.cell? ⟨gb480, 3, none⟩ = some (.int .i64 0) := (blk_cell BK480.out 3).trans rfl; have hcz17_4 : w16.cell? ⟨gb480, 4, none⟩ = some (.int .i64 0) := (blk_cell BK480.out 4).trans rfl; have hcz17_5 : w16.cell? ⟨gb480, 5, none⟩ = some (.bool false) := (blk_cell BK480.out 5).trans rfl; have hfz17_0 := blk_frozen BK480.out 0; have hfz17_1 := blk_frozen BK480.out 1; have hfz17_2 := blk_frozen BK480.out 2; have hfz17_3 := blk_frozen BK480.out 3; have hfz17_4 := blk_frozen BK480.out 4; have hfz17_5 := blk_frozen BK480.out 5))
          go_ret
          exact ⟨by first | rfl | (simp [errW_none, errW_some] <;> rfl) | (simp [*, errW_none, errW_some] <;> rfl), by repeat (first | (with_reducible first | exact HB.out | apply below_alloc | apply pw_below_drewN | apply below_drew1 | refine below_set ?_ GE480.out) | exact HB.out)⟩
      · rw [if_neg c8] at H
        have c8b0 : (t474 == 0) = false := beq_eq_false_iff_ne.mpr c8
        have c8b1 : (t474 != 0) = true := bne_iff_ne.mpr c8
        have HC18 := Aside0.mk H
        clear H
        go_enter Tryd.func11, Tryd.ntmps11
        go_upto_region 8 with (first | ((with_reducible refine gate_callee (f := 22) rfl ?_); refine goesL_ (some 6) rfl rfl Tryd.func22 (by kernel_rfl) rfl #[] rfl (by (try simp only [List.map_toArray, List.map_cons, List.map_nil]); first | done | rfl | (simp only [List.length_drop, List.length_take]; rfl)) ?_; (with_reducible refine (crossbarlaw16_sane.calls  true _ A3.out).mono ?_); rintro e w19 ⟨rfl, hb⟩; refine ⟨_, rfl, ?_⟩; have n0_ := Aside0.mk (below_step (by repeat (first | (with_reducible first | exact HB.out | apply below_alloc | apply pw_below_drewN | apply below_drew1) | exact HB.out)) hb); clear HB; have HB := n0_; clear n0_; (try clear hb); (try clear hb2); (try clear hk); (try clear hi)) | ((with_reducible refine gate_callee (f := 31) rfl ?_); refine goesL_ (some 10) rfl rfl Tryd.func31 (by kernel_rfl) rfl #[.slice A0 l0.length c0, .slice A1 l1.length c1] rfl (by (try simp only [List.map_toArray, List.map_cons, List.map_nil]); first | done | rfl | (simp only [List.length_drop, List.length_take]; rfl)) ?_; (with_reducible refine (crossbarlaw16_few.calls k _ _ l0 _ _ l1 true _ ?side1 ?side2 ?side3 ?side4 A5.out).mono ?_); (case side1 => repeat (first | exact (Kd.C_below HR0.out HB.out) | (with_reducible refine Kd.C_alloc ?_ _) | (with_reducible refine Kd.C_drewN ?_ _) | (with_reducible refine Kd.C_drew ?_))); (case side2 => exact HC0.out); (case side3 => repeat (first | exact (Kd.C_below HR1.out HB.out) | (with_reducible refine Kd.C_alloc ?_ _) | (with_reducible refine Kd.C_drewN ?_ _) | (with_reducible refine Kd.C_drew ?_))); (case side4 => exact HC1.out); rintro e w' ⟨rfl, ⟨nd, rfl⟩⟩; refine ⟨_, rfl, ?_⟩; (try (rw [drewN_self w19]; generalize hq_ : World.drewN w19 _ = w19; have n0_ : Aside0 (Below w.heap.size w w19) := ⟨by rw [← hq_]; exact (by repeat (first | (with_reducible first | exact HB.out | apply below_alloc | apply pw_below_drewN | apply below_drew1) | exact HB.out))⟩; clear HB hq_; have HB := n0_; clear n0_))) | ((with_reducible refine gate_callee (f := 32) rfl ?_); refine goesL_ (some 14) rfl rfl Tryd.func32 (by kernel_rfl) rfl #[.slice A0 l0.length c0, .slice A1 l1.length c1] rfl (by (try simp only [List.map_toArray, List.map_cons, List.map_nil]); first | done | rfl | (simp only [List.length_drop, List.length_take]; rfl)) ?_; (with_reducible refine (crossbarlaw16_run.calls k _ _ l0 _ _ l1 t474 t475 t476 t477 t478 t479 _ ?side1 ?side2 ?side3 ?side4 A7.out).mono ?_); (case side1 => repeat (first | exact (Kd.C_below HR0.out HB.out) | (with_reducible refine Kd.C_alloc ?_ _) | (with_reducible refine Kd.C_drewN ?_ _) | (with_reducible refine Kd.C_drew ?_))); (case side2 => exact HC0.out); (case side3 => repeat (first | exact (Kd.C_below HR1.out HB.out) | (with_reducible refine Kd.C_alloc ?_ _) | (with_reducible refine Kd.C_drewN ?_ _) | (with_reducible refine Kd.C_drew ?_))); (case side4 => exact HC1.out); rintro e w20 ⟨rfl, hb⟩; refine ⟨_, rfl, ?_⟩; have n0_ := Aside0.mk (below_step (by repeat (first | (with_reducible first | exact HB.out | apply below_alloc | apply pw_below_drewN | apply below_drew1) | exact HB.out)) hb); clear HB; have HB := n0_; clear n0_; (try clear hb); (try clear hb2); (try clear hk); (try clear hi)) | ((with_reducible refine gate_dst (N := 5) rfl ?_); refine box_event ?hg (N := 5) ?hd (cs := #[.int .i64 0, .string (⟨#[]⟩ : ByteArray), .bool false, .int .i64 0, .int .i64 0, .bool false]) (t := 58) ?hr ?_; (case hd => rfl); (case hg => rfl); (case hr => first | (go_simp; done) | (go_simp; rfl)); intro gb480 hg w21 hbox hb; have n0_ := Aside0.mk (below_step (by repeat (first | (with_reducible first | exact HB.out | apply below_alloc | apply pw_below_drewN | apply below_drew1) | exact HB.out)) hb); have n1_ := Aside0.mk (hbox); have n2_ := Aside0.mk ((by rw [hg]; exact (below_size (by repeat (first | (with_reducible first | exact HB.out | apply below_alloc | apply pw_below_drewN | apply below_drew1) | exact HB.out))) : w.heap.size ≤ gb480)); have n3_ := Aside0.mk ((by rw [hg]; exact (below_size (by repeat (first | (with_reducible first | exact HB.out | apply below_alloc | apply pw_below_drewN | apply below_drew1) | exact HB.out))) : w.heap.size ≤ gb480)); clear HB; have HB := n0_; have BK480 := n1_; have GW480 := n2_; have GE480 := n3_; clear n0_ n1_ n2_ n3_; clear hb hbox hg; have hcz22_0 : w21.cell? ⟨gb480, 0, none⟩ = some (.int .i64 0) := (blk_cell BK480.out 0).trans rfl; have hcz22_1 : w21.cell? ⟨gb480, 1, none⟩ = some (.string (⟨#[]⟩ : ByteArray)) := (blk_cell BK480.out 1).trans rfl; have hcz22_2 : w21.cell? ⟨gb480, 2, none⟩ = some (.bool false) := (blk_cell BK480.out 2).trans rfl; have hcz22_3 : w21.cell? ⟨gb480, 3, none⟩ = some (.int .i64 0) := (blk_cell BK480.out 3).trans rfl; have hcz22_4 : w21.cell? ⟨gb480, 4, none⟩ = some (.int .i64 0) := (blk_cell BK480.out 4).trans rfl; have hcz22_5 : w21.cell? ⟨gb480, 5, none⟩ = some (.bool false) := (blk_cell BK480.out 5).trans rfl; have hfz22_0 := blk_frozen BK480.out 0; have hfz22_1 := blk_frozen BK480.out 1; have hfz22_2 := blk_frozen BK480.out 2; have hfz22_3 := blk_frozen BK480.out 3; have hfz22_4 := blk_frozen BK480.out 4; have hfz22_5 := blk_frozen BK480.out 5))
        (try simp only [Act.put, List.setIfInBounds_toArray, List.set_cons_zero, List.set_cons_succ])
        go_cut [28] (fun v28 wc => ∃ (kq : Nat) (x28_17 : Bool), v28 = .bool x28_17 ∧ Aside0 (crossbarlaw16_OriginTones.j0 kq x28_17 t474 t475 t476 t477 t478 t479 = some r) ∧ Aside0 (kq ≤ k) ∧ Aside0 (wc.heap[gb480]? = some (.cells #[.int .i64 t474, .string t475, .bool t476, .int .i64 t477, .int .i64 t478, .bool t479] 58 (0, 0))) ∧ Aside0 (Below w.heap.size w wc))
        case first =>
          have H := HC18.out
          clear HC18
          by_cases c23 : t474 = 1
          · rw [if_pos c23] at H
            have c23b0 : (t474 == 1) = true := beq_iff_eq.mpr c23
            have c23b1 : (t474 != 1) = false := bne_eq_false_iff_eq.mpr c23
            clear c23
            (first | rw [c23b0] | (simp only [i64_w, i32_w]; rw [c23b0]) | skip)
            have H' := Aside0.mk H
            clear H
            have hcz24_0 : w21.cell? ⟨gb480, 0, none⟩ = some (.int .i64 0) := (blk_cell BK480.out 0).trans rfl
            have hcz24_1 : w21.cell? ⟨gb480, 1, none⟩ = some (.string (⟨#[]⟩ : ByteArray)) := (blk_cell BK480.out 1).trans rfl
            have hcz24_2 : w21.cell? ⟨gb480, 2, none⟩ = some (.bool false) := (blk_cell BK480.out 2).trans rfl
            have hcz24_3 : w21.cell? ⟨gb480, 3, none⟩ = some (.int .i64 0) := (blk_cell BK480.out 3).trans rfl
            have hcz24_4 : w21.cell? ⟨gb480, 4, none⟩ = some (.int .i64 0) := (blk_cell BK480.out 4).trans rfl
            have hcz24_5 : w21.cell? ⟨gb480, 5, none⟩ = some (.bool false) := (blk_cell BK480.out 5).trans rfl
            have hfz24_0 := blk_frozen BK480.out 0
            have hfz24_1 := blk_frozen BK480.out 1
            have hfz24_2 := blk_frozen BK480.out 2
            have hfz24_3 := blk_frozen BK480.out 3
            have hfz24_4 := blk_frozen BK480.out 4
            have hfz24_5 := blk_frozen BK480.out 5
            go_wp2
            go_meet
            case rel => exact ⟨_, ((t475.toList == ([] : List UInt8))), (by first | rfl | (simp; done) | (simp [*]; done)), H', ⟨by first | omega | exact Nat.le_refl _⟩, ⟨by (with_reducible repeat (first | refine blk_drewN ?_ _ | refine blk_drew ?_ | refine blk_alloc ?_ _)); refine blk_put (cs := #[.int .i64 t474, .string t475, .bool t476, .int .i64 t477, .int .i64 t478, .bool false]) ?_ 5 _ rfl; (with_reducible repeat (first | refine blk_drewN ?_ _ | refine blk_drew ?_ | refine blk_alloc ?_ _)); refine blk_put (cs := #[.int .i64 t474, .string t475, .bool t476, .int .i64 t477, .int .i64 0, .bool false]) ?_ 4 _ rfl; (with_reducible repeat (first | refine blk_drewN ?_ _ | refine blk_drew ?_ | refine blk_alloc ?_ _)); refine blk_put (cs := #[.int .i64 t474, .string t475, .bool t476, .int .i64 0, .int .i64 0, .bool false]) ?_ 3 _ rfl; (with_reducible repeat (first | refine blk_drewN ?_ _ | refine blk_drew ?_ | refine blk_alloc ?_ _)); refine blk_put (cs := #[.int .i64 t474, .string t475, .bool false, .int .i64 0, .int .i64 0, .bool false]) ?_ 2 _ rfl; (with_reducible repeat (first | refine blk_drewN ?_ _ | refine blk_drew ?_ | refine blk_alloc ?_ _)); refine blk_put (cs := #[.int .i64 t474, .string (⟨#[]⟩ : ByteArray), .bool false, .int .i64 0, .int .i64 0, .bool false]) ?_ 1 _ rfl; (with_reducible repeat (first | refine blk_drewN ?_ _ | refine blk_drew ?_ | refine blk_alloc ?_ _)); refine blk_put (cs := #[.int .i64 0, .string (⟨#[]⟩ : ByteArray), .bool false, .int .i64 0, .int .i64 0, .bool false]) ?_ 0 _ rfl; (with_reducible repeat (first | refine blk_drewN ?_ _ | refine blk_drew ?_ | refine blk_alloc ?_ _)); exact BK480.out⟩, ⟨by repeat (first | (with_reducible first | exact HB.out | apply below_alloc | apply pw_below_drewN | apply below_drew1 | refine below_set ?_ GE480.out) | exact HB.out)⟩⟩
          · rw [if_neg c23] at H
            have c23b0 : (t474 == 1) = false := beq_eq_false_iff_ne.mpr c23
            have c23b1 : (t474 != 1) = true := bne_iff_ne.mpr c23
            (first | rw [c23b0] | (simp only [i64_w, i32_w]; rw [c23b0]) | skip)
            have H' := Aside0.mk H
            clear H
            have hcz25_0 : w21.cell? ⟨gb480, 0, none⟩ = some (.int .i64 0) := (blk_cell BK480.out 0).trans rfl
            have hcz25_1 : w21.cell? ⟨gb480, 1, none⟩ = some (.string (⟨#[]⟩ : ByteArray)) := (blk_cell BK480.out 1).trans rfl
            have hcz25_2 : w21.cell? ⟨gb480, 2, none⟩ = some (.bool false) := (blk_cell BK480.out 2).trans rfl
            have hcz25_3 : w21.cell? ⟨gb480, 3, none⟩ = some (.int .i64 0) := (blk_cell BK480.out 3).trans rfl
            have hcz25_4 : w21.cell? ⟨gb480, 4, none⟩ = some (.int .i64 0) := (blk_cell BK480.out 4).trans rfl
            have hcz25_5 : w21.cell? ⟨gb480, 5, none⟩ = some (.bool false) := (blk_cell BK480.out 5).trans rfl
            have hfz25_0 := blk_frozen BK480.out 0
            have hfz25_1 := blk_frozen BK480.out 1
            have hfz25_2 := blk_frozen BK480.out 2
            have hfz25_3 := blk_frozen BK480.out 3
            have hfz25_4 := blk_frozen BK480.out 4
            have hfz25_5 := blk_frozen BK480.out 5
            go_wp2
            go_meet
            case rel => exact ⟨_, (false), (by first | rfl | (simp; done) | (simp [*]; done)), H', ⟨by first | omega | exact Nat.le_refl _⟩, ⟨by (with_reducible repeat (first | refine blk_drewN ?_ _ | refine blk_drew ?_ | refine blk_alloc ?_ _)); refine blk_put (cs := #[.int .i64 t474, .string t475, .bool t476, .int .i64 t477, .int .i64 t478, .bool false]) ?_ 5 _ rfl; (with_reducible repeat (first | refine blk_drewN ?_ _ | refine blk_drew ?_ | refine blk_alloc ?_ _)); refine blk_put (cs := #[.int .i64 t474, .string t475, .bool t476, .int .i64 t477, .int .i64 0, .bool false]) ?_ 4 _ rfl; (with_reducible repeat (first | refine blk_drewN ?_ _ | refine blk_drew ?_ | refine blk_alloc ?_ _)); refine blk_put (cs := #[.int .i64 t474, .string t475, .bool t476, .int .i64 0, .int .i64 0, .bool false]) ?_ 3 _ rfl; (with_reducible repeat (first | refine blk_drewN ?_ _ | refine blk_drew ?_ | refine blk_alloc ?_ _)); refine blk_put (cs := #[.int .i64 t474, .string t475, .bool false, .int .i64 0, .int .i64 0, .bool false]) ?_ 2 _ rfl; (with_reducible repeat (first | refine blk_drewN ?_ _ | refine blk_drew ?_ | refine blk_alloc ?_ _)); refine blk_put (cs := #[.int .i64 t474, .string (⟨#[]⟩ : ByteArray), .bool false, .int .i64 0, .int .i64 0, .bool false]) ?_ 1 _ rfl; (with_reducible repeat (first | refine blk_drewN ?_ _ | refine blk_drew ?_ | refine blk_alloc ?_ _)); refine blk_put (cs := #[.int .i64 0, .string (⟨#[]⟩ : ByteArray), .bool false, .int .i64 0, .int .i64 0, .bool false]) ?_ 0 _ rfl; (with_reducible repeat (first | refine blk_drewN ?_ _ | refine blk_drew ?_ | refine blk_alloc ?_ _)); exact BK480.out⟩, ⟨by repeat (first | (with_reducible first | exact HB.out | apply below_alloc | apply pw_below_drewN | apply below_drew1 | refine below_set ?_ GE480.out) | exact HB.out)⟩⟩
        case rest =>
          clear HC18
          try clear c1
          try clear c2
          try clear p2
          try clear c3
          try clear c4
          try clear c6
          try clear c8
          try clear c8b0
          try clear c8b1
          try clear c9
          try clear c9b0
          try clear c9b1
          try clear c11
          try clear c22
          try clear c23
          try clear c23b0
          try clear c23b1
          try clear hcz13_0
          try clear hcz13_1
          try clear hcz13_2
          try clear hcz13_3
          try clear hcz13_4
          try clear hcz13_5
          try clear hcz17_0
          try clear hcz17_1
          try clear hcz17_2
          try clear hcz17_3
          try clear hcz17_4
          try clear hcz17_5
          try clear hcz22_0
          try clear hcz22_1
          try clear hcz22_2
          try clear hcz22_3
          try clear hcz22_4
          try clear hcz22_5
          try clear hcz24_0
          try clear hcz24_1
          try clear hcz24_2
          try clear hcz24_3
          try clear hcz24_4
          try clear hcz24_5
          try clear hcz25_0
          try clear hcz25_1
          try clear hcz25_2
          try clear hcz25_3
          try clear hcz25_4
          try clear hcz25_5
          try clear hfz13_0
          try clear hfz13_1
          try clear hfz13_2
          try clear hfz13_3
          try clear hfz13_4
          try clear hfz13_5
          try clear hfz17_0
          try clear hfz17_1
          try clear hfz17_2
          try clear hfz17_3
          try clear hfz17_4
          try clear hfz17_5
          try clear hfz22_0
          try clear hfz22_1
          try clear hfz22_2
          try clear hfz22_3
          try clear hfz22_4
          try clear hfz22_5
          try clear hfz24_0
          try clear hfz24_1
          try clear hfz24_2
          try clear hfz24_3
          try clear hfz24_4
          try clear hfz24_5
          try clear hfz25_0
          try clear hfz25_1
          try clear hfz25_2
          try clear hfz25_3
          try clear hfz25_4
          try clear hfz25_5
          obtain ⟨kq, x28_17, rfl, HA, HJ17, BK480, HB⟩ := hcut
          cases kq with
          | zero => exact absurd HA.out (by simp [crossbarlaw16_OriginTones.j0])
          | succ kj17 =>
            have H := HA.out
            clear HA
            simp only [crossbarlaw16_OriginTones.j0] at H
            by_cases c26 : x28_17 = true
            · subst c26
              have H1 : (some (t478 == 1)) = some r := by rw [if_pos rfl] at H; exact H
              clear H
              have H := H1
              clear H1
              obtain rfl := Option.some.inj H
              clear ht
              have hcz27_0 : wc.cell? ⟨gb480, 0, none⟩ = some (.int .i64 t474) := (blk_cell BK480.out 0).trans rfl
              have hcz27_1 : wc.cell? ⟨gb480, 1, none⟩ = some (.string t475) := (blk_cell BK480.out 1).trans rfl
              have hcz27_2 : wc.cell? ⟨gb480, 2, none⟩ = some (.bool t476) := (blk_cell BK480.out 2).trans rfl
              have hcz27_3 : wc.cell? ⟨gb480, 3, none⟩ = some (.int .i64 t477) := (blk_cell BK480.out 3).trans rfl
              have hcz27_4 : wc.cell? ⟨gb480, 4, none⟩ = some (.int .i64 t478) := (blk_cell BK480.out 4).trans rfl
              have hcz27_5 : wc.cell? ⟨gb480, 5, none⟩ = some (.bool t479) := (blk_cell BK480.out 5).trans rfl
              have hfz27_0 := blk_frozen BK480.out 0
              have hfz27_1 := blk_frozen BK480.out 1
              have hfz27_2 := blk_frozen BK480.out 2
              have hfz27_3 := blk_frozen BK480.out 3
              have hfz27_4 := blk_frozen BK480.out 4
              have hfz27_5 := blk_frozen BK480.out 5
              go_wp2
              go_ret
              exact ⟨by first | rfl | (simp [errW_none, errW_some] <;> rfl) | (simp [*, errW_none, errW_some] <;> rfl), by repeat (first | (with_reducible first | exact HB.out | apply below_alloc | apply pw_below_drewN | apply below_drew1 | refine below_set ?_ GE480.out) | exact HB.out)⟩
            · replace c26 := Bool.eq_false_iff.mpr c26
              subst c26
              have H1 : (if t474 = 3 then (some (t478 == 4)) else (if t474 = 5 then (some (t478 == 3)) else (some (t478 == 2)))) = some r := by rw [if_neg (show ¬ (false = true) by decide)] at H; exact H
              clear H
              have H := H1
              clear H1
              by_cases c28 : t474 = 3
              · rw [if_pos c28] at H
                have c28b0 : (t474 == 3) = true := beq_iff_eq.mpr c28
                have c28b1 : (t474 != 3) = false := bne_eq_false_iff_eq.mpr c28
                clear c28
                obtain rfl := Option.some.inj H
                clear ht
                have hcz29_0 : wc.cell? ⟨gb480, 0, none⟩ = some (.int .i64 t474) := (blk_cell BK480.out 0).trans rfl
                have hcz29_1 : wc.cell? ⟨gb480, 1, none⟩ = some (.string t475) := (blk_cell BK480.out 1).trans rfl
                have hcz29_2 : wc.cell? ⟨gb480, 2, none⟩ = some (.bool t476) := (blk_cell BK480.out 2).trans rfl
                have hcz29_3 : wc.cell? ⟨gb480, 3, none⟩ = some (.int .i64 t477) := (blk_cell BK480.out 3).trans rfl
                have hcz29_4 : wc.cell? ⟨gb480, 4, none⟩ = some (.int .i64 t478) := (blk_cell BK480.out 4).trans rfl
                have hcz29_5 : wc.cell? ⟨gb480, 5, none⟩ = some (.bool t479) := (blk_cell BK480.out 5).trans rfl
                have hfz29_0 := blk_frozen BK480.out 0
                have hfz29_1 := blk_frozen BK480.out 1
                have hfz29_2 := blk_frozen BK480.out 2
                have hfz29_3 := blk_frozen BK480.out 3
                have hfz29_4 := blk_frozen BK480.out 4
                have hfz29_5 := blk_frozen BK480.out 5
                go_wp2
                go_ret
                exact ⟨by first | rfl | (simp [errW_none, errW_some] <;> rfl) | (simp [*, errW_none, errW_some] <;> rfl), by repeat (first | (with_reducible first | exact HB.out | apply below_alloc | apply pw_below_drewN | apply below_drew1 | refine below_set ?_ GE480.out) | exact HB.out)⟩
              · rw [if_neg c28] at H
                have c28b0 : (t474 == 3) = false := beq_eq_false_iff_ne.mpr c28
                have c28b1 : (t474 != 3) = true := bne_iff_ne.mpr c28
                by_cases c30 : t474 = 5
                · rw [if_pos c30] at H
                  have c30b0 : (t474 == 5) = true := beq_iff_eq.mpr c30
                  have c30b1 : (t474 != 5) = false := bne_eq_false_iff_eq.mpr c30
                  clear c30
                  obtain rfl := Option.some.inj H
                  clear ht
                  have hcz31_0 : wc.cell? ⟨gb480, 0, none⟩ = some (.int .i64 t474) := (blk_cell BK480.out 0).trans rfl
                  have hcz31_1 : wc.cell? ⟨gb480, 1, none⟩ = some (.string t475) := (blk_cell BK480.out 1).trans rfl
                  have hcz31_2 : wc.cell? ⟨gb480, 2, none⟩ = some (.bool t476) := (blk_cell BK480.out 2).trans rfl
                  have hcz31_3 : wc.cell? ⟨gb480, 3, none⟩ = some (.int .i64 t477) := (blk_cell BK480.out 3).trans rfl
                  have hcz31_4 : wc.cell? ⟨gb480, 4, none⟩ = some (.int .i64 t478) := (blk_cell BK480.out 4).trans rfl
                  have hcz31_5 : wc.cell? ⟨gb480, 5, none⟩ = some (.bool t479) := (blk_cell BK480.out 5).trans rfl
                  have hfz31_0 := blk_frozen BK480.out 0
                  have hfz31_1 := blk_frozen BK480.out 1
                  have hfz31_2 := blk_frozen BK480.out 2
                  have hfz31_3 := blk_frozen BK480.out 3
                  have hfz31_4 := blk_frozen BK480.out 4
                  have hfz31_5 := blk_frozen BK480.out 5
                  go_wp2
                  go_ret
                  exact ⟨by first | rfl | (simp [errW_none, errW_some] <;> rfl) | (simp [*, errW_none, errW_some] <;> rfl), by repeat (first | (with_reducible first | exact HB.out | apply below_alloc | apply pw_below_drewN | apply below_drew1 | refine below_set ?_ GE480.out) | exact HB.out)⟩
                · rw [if_neg c30] at H
                  have c30b0 : (t474 == 5) = false := beq_eq_false_iff_ne.mpr c30
                  have c30b1 : (t474 != 5) = true := bne_iff_ne.mpr c30
                  obtain rfl := Option.some.inj H
                  clear ht
                  have hcz32_0 : wc.cell? ⟨gb480, 0, none⟩ = some (.int .i64 t474) := (blk_cell BK480.out 0).trans rfl
                  have hcz32_1 : wc.cell? ⟨gb480, 1, none⟩ = some (.string t475) := (blk_cell BK480.out 1).trans rfl
                  have hcz32_2 : wc.cell? ⟨gb480, 2, none⟩ = some (.bool t476) := (blk_cell BK480.out 2).trans rfl
                  have hcz32_3 : wc.cell? ⟨gb480, 3, none⟩ = some (.int .i64 t477) := (blk_cell BK480.out 3).trans rfl
                  have hcz32_4 : wc.cell? ⟨gb480, 4, none⟩ = some (.int .i64 t478) := (blk_cell BK480.out 4).trans rfl
                  have hcz32_5 : wc.cell? ⟨gb480, 5, none⟩ = some (.bool t479) := (blk_cell BK480.out 5).trans rfl
                  have hfz32_0 := blk_frozen BK480.out 0
                  have hfz32_1 := blk_frozen BK480.out 1
                  have hfz32_2 := blk_frozen BK480.out 2
                  have hfz32_3 := blk_frozen BK480.out 3
                  have hfz32_4 := blk_frozen BK480.out 4
                  have hfz32_5 := blk_frozen BK480.out 5
                  go_wp2
                  go_ret
                  exact ⟨by first | rfl | (simp [errW_none, errW_some] <;> rfl) | (simp [*, errW_none, errW_some] <;> rfl), by repeat (first | (with_reducible first | exact HB.out | apply below_alloc | apply pw_below_drewN | apply below_drew1 | refine below_set ?_ GE480.out) | exact HB.out)⟩
    · replace c6 := Bool.eq_false_iff.mpr c6
      subst c6
      have H1 : (some true) = some r := by rw [if_neg (show ¬ (false = true) by decide)] at H; exact H
      clear H
      have H := H1
      clear H1
      obtain rfl := Option.some.inj H
      clear ht
      go_enter Tryd.func11, Tryd.ntmps11
      go_wp2_with (first | ((with_reducible refine gate_callee (f := 22) rfl ?_); refine goesL_ (some 6) rfl rfl Tryd.func22 (by kernel_rfl) rfl #[] rfl (by (try simp only [List.map_toArray, List.map_cons, List.map_nil]); first | done | rfl | (simp only [List.length_drop, List.length_take]; rfl)) ?_; (with_reducible refine (crossbarlaw16_sane.calls  true _ A3.out).mono ?_); rintro e w33 ⟨rfl, hb⟩; refine ⟨_, rfl, ?_⟩; have n0_ := Aside0.mk (below_step (by repeat (first | (with_reducible first | exact HB.out | apply below_alloc | apply pw_below_drewN | apply below_drew1) | exact HB.out)) hb); clear HB; have HB := n0_; clear n0_; (try clear hb); (try clear hb2); (try clear hk); (try clear hi)) | ((with_reducible refine gate_callee (f := 31) rfl ?_); refine goesL_ (some 10) rfl rfl Tryd.func31 (by kernel_rfl) rfl #[.slice A0 l0.length c0, .slice A1 l1.length c1] rfl (by (try simp only [List.map_toArray, List.map_cons, List.map_nil]); first | done | rfl | (simp only [List.length_drop, List.length_take]; rfl)) ?_; (with_reducible refine (crossbarlaw16_few.calls k _ _ l0 _ _ l1 false _ ?side1 ?side2 ?side3 ?side4 A5.out).mono ?_); (case side1 => repeat (first | exact (Kd.C_below HR0.out HB.out) | (with_reducible refine Kd.C_alloc ?_ _) | (with_reducible refine Kd.C_drewN ?_ _) | (with_reducible refine Kd.C_drew ?_))); (case side2 => exact HC0.out); (case side3 => repeat (first | exact (Kd.C_below HR1.out HB.out) | (with_reducible refine Kd.C_alloc ?_ _) | (with_reducible refine Kd.C_drewN ?_ _) | (with_reducible refine Kd.C_drew ?_))); (case side4 => exact HC1.out); rintro e w' ⟨rfl, ⟨nd, rfl⟩⟩; refine ⟨_, rfl, ?_⟩))
      go_ret
      exact ⟨by first | rfl | (simp [errW_none, errW_some] <;> rfl) | (simp [*, errW_none, errW_some] <;> rfl), by repeat (first | (with_reducible first | exact HB.out | apply below_alloc | apply pw_below_drewN | apply below_drew1) | exact HB.out)⟩
  · replace c4 := Bool.eq_false_iff.mpr c4
    subst c4
    have H1 : (some false) = some r := by rw [if_neg (show ¬ (false = true) by decide)] at H; exact H
    clear H
    have H := H1
    clear H1
    exact absurd ((Option.some.inj H).trans ht) (by decide)
end Go.Proofs.YthknfclhkmehgaaDoor.Fn
