-- printed by a program of this session, out of the translation; Lean checks it
import Derived.Test.YthknfclhkmehgaaDoorFn0
import Derived.Test.YthknfclhkmehgaaDoorFn2
import Derived.Test.YthknfclhkmehgaaDoorEStep
namespace Go.Proofs.YthknfclhkmehgaaDoor.Fn
open Go.RowKit Go.Proofs.YthknfclhkmehgaaDoorW.PrintWords Go.Proofs.YthknfclhkmehgaaDoorW.PrintLast Go.Proofs.YthknfclhkmehgaaDoorW.PrintMore
attribute [local go_sem] max2_int min2_int max_two min_two max_three min_three max_four min_four   -- for this text's walks alone
set_option linter.unusedVariables false
set_option linter.unusedSimpArgs false

attribute [local go_sem high] eqA45
theorem isE_nil (l : List UInt8) : l.isEmpty = (l == ([] : List UInt8)) := by cases l <;> rfl
/-! ### crossbarlaw16_run: function 32 -/
mutual
noncomputable def crossbarlaw16_run.l0 : Nat → List (S35) → List (S47) → Int → Int → ByteArray → Bool → Int → Int → Bool → Option (Int × ByteArray × Bool × Int × Int × Bool)
  | 0, _, _, _, _, _, _, _, _, _ => none
  | k + 1, x0, x1, x6, x401000, x401001, x401002, x401003, x401004, x401005 => if x6 < (x1.length : Int) then (if 0 ≤ x6 then ((origin_Step.f k x401000 x401001 x0 ((rd_T47 x1 x6).f0) ((rd_T47 x1 x6).f1) ((rd_T47 x1 x6).f2)).bind fun bt402 => (if bt402.2.2.2 = 0 then (if ((rd_T47 x1 x6).f0) = 4 then (crossbarlaw16_run.j1 k x0 x1 x6 bt402.2.2.1 x401000 x401001 false x401003 x401004 x401005 bt402.1 bt402.2.1) else (crossbarlaw16_run.j1 k x0 x1 x6 bt402.2.2.1 x401000 x401001 x401002 x401003 x401004 x401005 bt402.1 bt402.2.1)) else (if x401005 = true then (if (bt402.2.2.1.length : Int) = 0 then (crossbarlaw16_run.l0 k x0 x1 (wrap64 (x6 + 1)) x401000 x401001 x401002 x401003 x401004 (bt402.1 == 0 && (bt402.2.1.toList == ([] : List UInt8)))) else (crossbarlaw16_run.l0 k x0 x1 (wrap64 (x6 + 1)) x401000 x401001 x401002 x401003 x401004 false)) else (crossbarlaw16_run.l0 k x0 x1 (wrap64 (x6 + 1)) x401000 x401001 x401002 x401003 x401004 false)))) else (none)) else (some (x401000, x401001, x401002, x401003, x401004, x401005))
noncomputable def crossbarlaw16_run.j1 : Nat → List (S35) → List (S47) → Int → List (S62) → Int → ByteArray → Bool → Int → Int → Bool → Int → ByteArray → Option (Int × ByteArray × Bool × Int × Int × Bool)
  | 0, _, _, _, _, _, _, _, _, _, _, _, _ => none
  | k + 1, x0, x1, x6, x8, x401000, x401001, x401002, x401003, x401004, x401005, x409000, x409001 => if 0 ≤ x6 then (if x6 < (x1.length : Int) then (if ((rd_T47 x1 x6).f0) = 9 then (crossbarlaw16_run.j2 k x0 x1 x6 x8 x401000 x401001 x401002 (wrap64 (x401003 - 1)) x401004 x401005 x409000 x409001) else (crossbarlaw16_run.j2 k x0 x1 x6 x8 x401000 x401001 x401002 x401003 x401004 x401005 x409000 x409001)) else (none)) else (none)
noncomputable def crossbarlaw16_run.j2 : Nat → List (S35) → List (S47) → Int → List (S62) → Int → ByteArray → Bool → Int → Int → Bool → Int → ByteArray → Option (Int × ByteArray × Bool × Int × Int × Bool)
  | 0, _, _, _, _, _, _, _, _, _, _, _, _ => none
  | k + 1, x0, x1, x6, x8, x401000, x401001, x401002, x401003, x401004, x401005, x409000, x409001 => crossbarlaw16_run.l1 k x0 x1 x6 x8 0 x401000 x401001 x401002 x401003 x401004 x401005 x409000 x409001
noncomputable def crossbarlaw16_run.l1 : Nat → List (S35) → List (S47) → Int → List (S62) → Int → Int → ByteArray → Bool → Int → Int → Bool → Int → ByteArray → Option (Int × ByteArray × Bool × Int × Int × Bool)
  | 0, _, _, _, _, _, _, _, _, _, _, _, _, _ => none
  | k + 1, x0, x1, x6, x8, x10, x401000, x401001, x401002, x401003, x401004, x401005, x409000, x409001 => if x10 < (x8.length : Int) then (if 0 ≤ x10 then (if ((rd_T62 x8 x10).f0) = 9 then (crossbarlaw16_run.l1 k x0 x1 x6 x8 (wrap64 (x10 + 1)) x401000 x401001 true x401003 x401004 x401005 x409000 x409001) else (if ((rd_T62 x8 x10).f0) = 10 then (if x401005 = true then (crossbarlaw16_run.l1 k x0 x1 x6 x8 (wrap64 (x10 + 1)) x401000 x401001 false x401003 x401004 x401002 x409000 x409001) else (crossbarlaw16_run.l1 k x0 x1 x6 x8 (wrap64 (x10 + 1)) x401000 x401001 false x401003 x401004 false x409000 x409001)) else (if ((rd_T62 x8 x10).f0) = 5 then (crossbarlaw16_run.l1 k x0 x1 x6 x8 (wrap64 (x10 + 1)) x401000 x401001 x401002 (wrap64 (x401003 + 1)) x401004 x401005 x409000 x409001) else (if ((rd_T62 x8 x10).f0) = 7 then (crossbarlaw16_run.l1 k x0 x1 x6 x8 (wrap64 (x10 + 1)) x401000 x401001 x401002 (wrap64 (x401003 - 1)) x401004 x401005 x409000 x409001) else (if ((rd_T62 x8 x10).f0) = 1 then (crossbarlaw16_run.l1 k x0 x1 x6 x8 (wrap64 (x10 + 1)) x401000 x401001 x401002 x401003 ((rd_T62 x8 x10).f0) x401005 x409000 x409001) else (if ((rd_T62 x8 x10).f0) = 2 then (crossbarlaw16_run.l1 k x0 x1 x6 x8 (wrap64 (x10 + 1)) x401000 x401001 x401002 x401003 ((rd_T62 x8 x10).f0) x401005 x409000 x409001) else (if ((rd_T62 x8 x10).f0) = 3 then (crossbarlaw16_run.l1 k x0 x1 x6 x8 (wrap64 (x10 + 1)) x401000 x401001 x401002 x401003 ((rd_T62 x8 x10).f0) x401005 x409000 x409001) else (if ((rd_T62 x8 x10).f0) = 4 then (crossbarlaw16_run.l1 k x0 x1 x6 x8 (wrap64 (x10 + 1)) x401000 x401001 x401002 x401003 ((rd_T62 x8 x10).f0) x401005 x409000 x409001) else (crossbarlaw16_run.l1 k x0 x1 x6 x8 (wrap64 (x10 + 1)) x401000 x401001 x401002 x401003 x401004 x401005 x409000 x409001))))))))) else (none)) else (crossbarlaw16_run.l0 k x0 x1 (wrap64 (x6 + 1)) x409000 x409001 x401002 x401003 x401004 x401005)
end
noncomputable def crossbarlaw16_run.f (k : Nat) (l0 : List (S35)) (l1 : List (S47)) : Option (Int × ByteArray × Bool × Int × Int × Bool) := crossbarlaw16_run.l0 k l0 l1 0 0 (⟨#[]⟩ : ByteArray) false 0 0 true
theorem crossbarlaw16_run.mono_l : ∀ k, (∀ y0 y1 y2 y3 y4 y5 y6 y7 y8, LeO (crossbarlaw16_run.l0 k y0 y1 y2 y3 y4 y5 y6 y7 y8) (crossbarlaw16_run.l0 (k + 1) y0 y1 y2 y3 y4 y5 y6 y7 y8)) ∧ (∀ y0 y1 y2 y3 y4 y5 y6 y7 y8 y9 y10 y11, LeO (crossbarlaw16_run.j1 k y0 y1 y2 y3 y4 y5 y6 y7 y8 y9 y10 y11) (crossbarlaw16_run.j1 (k + 1) y0 y1 y2 y3 y4 y5 y6 y7 y8 y9 y10 y11)) ∧ (∀ y0 y1 y2 y3 y4 y5 y6 y7 y8 y9 y10 y11, LeO (crossbarlaw16_run.j2 k y0 y1 y2 y3 y4 y5 y6 y7 y8 y9 y10 y11) (crossbarlaw16_run.j2 (k + 1) y0 y1 y2 y3 y4 y5 y6 y7 y8 y9 y10 y11)) ∧ (∀ y0 y1 y2 y3 y4 y5 y6 y7 y8 y9 y10 y11 y12, LeO (crossbarlaw16_run.l1 k y0 y1 y2 y3 y4 y5 y6 y7 y8 y9 y10 y11 y12) (crossbarlaw16_run.l1 (k + 1) y0 y1 y2 y3 y4 y5 y6 y7 y8 y9 y10 y11 y12))
  | 0 => ⟨fun _ _ _ _ _ _ _ _ _ r h => by simp [crossbarlaw16_run.l0] at h, fun _ _ _ _ _ _ _ _ _ _ _ _ r h => by simp [crossbarlaw16_run.j1] at h, fun _ _ _ _ _ _ _ _ _ _ _ _ r h => by simp [crossbarlaw16_run.j2] at h, fun _ _ _ _ _ _ _ _ _ _ _ _ _ r h => by simp [crossbarlaw16_run.l1] at h⟩
  | k + 1 => by
    obtain ⟨ih0, ih1, ih2, ih3⟩ := crossbarlaw16_run.mono_l k
    refine ⟨?_, ?_, ?_, ?_⟩
    · intro y0 y1 y2 y3 y4 y5 y6 y7 y8
      unfold crossbarlaw16_run.l0
      repeat' first
      | (with_reducible exact ih0 _ _ _ _ _ _ _ _ _)
      | (with_reducible exact ih1 _ _ _ _ _ _ _ _ _ _ _ _)
      | (with_reducible exact ih2 _ _ _ _ _ _ _ _ _ _ _ _)
      | (with_reducible exact ih3 _ _ _ _ _ _ _ _ _ _ _ _ _)
      | (with_reducible exact origin_Step.mono _ _ _ _ _ _ _)
      | (with_reducible exact LeO.refl _)
      | (with_reducible exact LeO.none _)
      | (with_reducible refine LeO.ite ?_ ?_)
      | (with_reducible refine LeO.bind ?_ (fun _ => ?_))
      | exact ih0 _ _ _ _ _ _ _ _ _
      | exact ih1 _ _ _ _ _ _ _ _ _ _ _ _
      | exact ih2 _ _ _ _ _ _ _ _ _ _ _ _
      | exact ih3 _ _ _ _ _ _ _ _ _ _ _ _ _
      | exact origin_Step.mono _ _ _ _ _ _ _
      | exact LeO.none _
      | refine LeO.ite ?_ ?_
      | refine LeO.bind ?_ (fun _ => ?_)
    · intro y0 y1 y2 y3 y4 y5 y6 y7 y8 y9 y10 y11
      unfold crossbarlaw16_run.j1
      repeat' first
      | (with_reducible exact ih0 _ _ _ _ _ _ _ _ _)
      | (with_reducible exact ih1 _ _ _ _ _ _ _ _ _ _ _ _)
      | (with_reducible exact ih2 _ _ _ _ _ _ _ _ _ _ _ _)
      | (with_reducible exact ih3 _ _ _ _ _ _ _ _ _ _ _ _ _)
      | (with_reducible exact origin_Step.mono _ _ _ _ _ _ _)
      | (with_reducible exact LeO.refl _)
      | (with_reducible exact LeO.none _)
      | (with_reducible refine LeO.ite ?_ ?_)
      | (with_reducible refine LeO.bind ?_ (fun _ => ?_))
      | exact ih0 _ _ _ _ _ _ _ _ _
      | exact ih1 _ _ _ _ _ _ _ _ _ _ _ _
      | exact ih2 _ _ _ _ _ _ _ _ _ _ _ _
      | exact ih3 _ _ _ _ _ _ _ _ _ _ _ _ _
      | exact origin_Step.mono _ _ _ _ _ _ _
      | exact LeO.none _
      | refine LeO.ite ?_ ?_
      | refine LeO.bind ?_ (fun _ => ?_)
    · intro y0 y1 y2 y3 y4 y5 y6 y7 y8 y9 y10 y11
      unfold crossbarlaw16_run.j2
      repeat' first
      | (with_reducible exact ih0 _ _ _ _ _ _ _ _ _)
      | (with_reducible exact ih1 _ _ _ _ _ _ _ _ _ _ _ _)
      | (with_reducible exact ih2 _ _ _ _ _ _ _ _ _ _ _ _)
      | (with_reducible exact ih3 _ _ _ _ _ _ _ _ _ _ _ _ _)
      | (with_reducible exact origin_Step.mono _ _ _ _ _ _ _)
      | (with_reducible exact LeO.refl _)
      | (with_reducible exact LeO.none _)
      | (with_reducible refine LeO.ite ?_ ?_)
      | (with_reducible refine LeO.bind ?_ (fun _ => ?_))
      | exact ih0 _ _ _ _ _ _ _ _ _
      | exact ih1 _ _ _ _ _ _ _ _ _ _ _ _
      | exact ih2 _ _ _ _ _ _ _ _ _ _ _ _
      | exact ih3 _ _ _ _ _ _ _ _ _ _ _ _ _
      | exact origin_Step.mono _ _ _ _ _ _ _
      | exact LeO.none _
      | refine LeO.ite ?_ ?_
      | refine LeO.bind ?_ (fun _ => ?_)
    · intro y0 y1 y2 y3 y4 y5 y6 y7 y8 y9 y10 y11 y12
      unfold crossbarlaw16_run.l1
      repeat' first
      | (with_reducible exact ih0 _ _ _ _ _ _ _ _ _)
      | (with_reducible exact ih1 _ _ _ _ _ _ _ _ _ _ _ _)
      | (with_reducible exact ih2 _ _ _ _ _ _ _ _ _ _ _ _)
      | (with_reducible exact ih3 _ _ _ _ _ _ _ _ _ _ _ _ _)
      | (with_reducible exact origin_Step.mono _ _ _ _ _ _ _)
      | (with_reducible exact LeO.refl _)
      | (with_reducible exact LeO.none _)
      | (with_reducible refine LeO.ite ?_ ?_)
      | (with_reducible refine LeO.bind ?_ (fun _ => ?_))
      | exact ih0 _ _ _ _ _ _ _ _ _
      | exact ih1 _ _ _ _ _ _ _ _ _ _ _ _
      | exact ih2 _ _ _ _ _ _ _ _ _ _ _ _
      | exact ih3 _ _ _ _ _ _ _ _ _ _ _ _ _
      | exact origin_Step.mono _ _ _ _ _ _ _
      | exact LeO.none _
      | refine LeO.ite ?_ ?_
      | refine LeO.bind ?_ (fun _ => ?_)
theorem crossbarlaw16_run.mono : ∀ a0 a1 k, LeO (crossbarlaw16_run.f k a0 a1) (crossbarlaw16_run.f (k + 1) a0 a1) := by
  intro a0 a1 k
  obtain ⟨ih0, ih1, ih2, ih3⟩ := crossbarlaw16_run.mono_l k
  unfold crossbarlaw16_run.f
  repeat' first
      | (with_reducible exact ih0 _ _ _ _ _ _ _ _ _)
      | (with_reducible exact ih1 _ _ _ _ _ _ _ _ _ _ _ _)
      | (with_reducible exact ih2 _ _ _ _ _ _ _ _ _ _ _ _)
      | (with_reducible exact ih3 _ _ _ _ _ _ _ _ _ _ _ _ _)
      | (with_reducible exact origin_Step.mono _ _ _ _ _ _ _)
      | (with_reducible exact LeO.refl _)
      | (with_reducible exact LeO.none _)
      | (with_reducible refine LeO.ite ?_ ?_)
      | (with_reducible refine LeO.bind ?_ (fun _ => ?_))
      | exact ih0 _ _ _ _ _ _ _ _ _
      | exact ih1 _ _ _ _ _ _ _ _ _ _ _ _
      | exact ih2 _ _ _ _ _ _ _ _ _ _ _ _
      | exact ih3 _ _ _ _ _ _ _ _ _ _ _ _ _
      | exact origin_Step.mono _ _ _ _ _ _ _
      | exact LeO.none _
      | refine LeO.ite ?_ ?_
      | refine LeO.bind ?_ (fun _ => ?_)
noncomputable def crossbarlaw16_run.T5 : Bool × List (List Nat × List Nat) := (true, [([], []), ([0], [0]), ([], []), ([], []), ([], []), ([3, 4], [3, 4]), ([5], [5]), ([1, 2, 6], [1, 2, 6]), ([7], [7]), ([8], [8]), ([8], [8]), ([8], [8]), ([], []), ([12, 9, 7, 0, 1, 2, 3, 4, 5, 6, 7, 8, 9, 12], [9, 12]), ([10, 13, 0, 1, 2, 3, 4, 5, 6, 7, 8, 9, 10, 12, 13], [10]), ([11, 14, 0, 1, 2, 3, 4, 5, 6, 7, 8, 9, 10, 11, 12, 13, 14], [11])])
noncomputable def crossbarlaw16_run.B5 : List Nat := [0, 1, 0, 0, 0, 24, 56, 127, 255, 511, 511, 511, 0, 5119, 14335, 32767]
theorem crossbarlaw16_run.tab5 : rtab .any (opsOf Tryd.f32 5) = crossbarlaw16_run.T5 := by kernel_rfl
theorem crossbarlaw16_run.bits5 : waitsOk crossbarlaw16_run.T5.2 crossbarlaw16_run.B5 = true := by kernel_rfl
set_option maxHeartbeats 8000000 in
set_option maxRecDepth 100000 in
theorem crossbarlaw16_run.calls (k : Nat) (A0 : Option Addr) (c0 : Nat) (l0 : List (S35)) (A1 : Option Addr) (c1 : Nat) (l1 : List (S47)) (r1 : Int) (r2 : ByteArray) (r3 : Bool) (r4 : Int) (r5 : Int) (r6 : Bool) (w : World) (hr0 : Kd.C k35 w A0 l0.length l0) (hc0 : l0.length ≤ c0) (hr1 : Kd.C k47 w A1 l1.length l1) (hc1 : l1.length ≤ c1) (h : crossbarlaw16_run.f k l0 l1 = some (r1, r2, r3, r4, r5, r6)) :
    Calls Tryd.prog 32 #[.slice A0 l0.length c0, .slice A1 l1.length c1] w fun e w' => e = .returned (.agg #[.int .i64 r1, .string r2, .bool r3, .int .i64 r4, .int .i64 r5, .bool r6]) ∧ Below w.heap.size w w' := by
  have hu58 := Tryd.underlying58
  have hu45 := Tryd.underlying45
  have hu47 := Tryd.underlying47
  have HR0 := Aside0.mk hr0
  have HC0 := Aside0.mk hc0
  clear hr0 hc0
  have HR1 := Aside0.mk hr1
  have HC1 := Aside0.mk hc1
  clear hr1 hc1
  have HB := Aside0.mk (Below.refl w.heap.size w)
  have H : (crossbarlaw16_run.l0 k l0 l1 0 0 (⟨#[]⟩ : ByteArray) false 0 0 true) = some (r1, r2, r3, r4, r5, r6) := h
  clear h
  have H' := Aside0.mk H
  clear H
  go_enter Tryd.func32, Tryd.ntmps32
  go_wp2_with (first | ((with_reducible refine gate_dst (N := 4) rfl ?_); (try (refine gate_guard (by rfl) ?_; dsimp only)); refine box_event ?hg (N := 4) ?hd (cs := #[.int .i64 0, .string (⟨#[]⟩ : ByteArray), .bool false, .int .i64 0, .int .i64 0, .bool false]) (t := 58) ?hr ?_; (case hd => rfl); (case hg => rfl); (case hr => first | (go_simp; done) | (go_simp; rfl)); intro gb399 hg w3 hbox hb; have n0_ := Aside0.mk (below_step (by repeat (first | (with_reducible first | exact HB.out | apply below_alloc | apply pw_below_drewN | apply below_drew1) | exact HB.out)) hb); have n1_ := Aside0.mk (hbox); have n2_ := Aside0.mk ((by rw [hg]; exact (below_size (by repeat (first | (with_reducible first | exact HB.out | apply below_alloc | apply pw_below_drewN | apply below_drew1) | exact HB.out))) : w.heap.size ≤ gb399)); have n3_ := Aside0.mk ((by rw [hg]; exact (below_size (by repeat (first | (with_reducible first | exact HB.out | apply below_alloc | apply pw_below_drewN | apply below_drew1) | exact HB.out))) : w.heap.size ≤ gb399)); clear HB; have HB := n0_; have BK399 := n1_; have GW399 := n2_; have GE399 := n3_; clear n0_ n1_ n2_ n3_; clear hb hbox hg) | ((with_reducible refine gate_dst (N := 5) rfl ?_); (try (refine gate_guard (by rfl) ?_; dsimp only)); refine box_event ?hg (N := 5) ?hd (cs := #[.int .i64 0, .string (⟨#[]⟩ : ByteArray), .bool false, .int .i64 0, .int .i64 0, .bool false]) (t := 58) ?hr ?_; (case hd => rfl); (case hg => rfl); (case hr => first | (go_simp; done) | (go_simp; rfl)); intro gb400 hg w4 hbox hb; have n0_ := Aside0.mk (blk_below (g := gb399) (o := .cells #[.int .i64 0, .string (⟨#[]⟩ : ByteArray), .bool false, .int .i64 0, .int .i64 0, .bool false] 58 (0, 0)) (by (with_reducible repeat (first | refine blk_drewN ?_ _ | refine blk_drew ?_ | refine blk_alloc ?_ _)); exact BK399.out) hb); have n1_ := Aside0.mk (below_step (by repeat (first | (with_reducible first | exact HB.out | apply below_alloc | apply pw_below_drewN | apply below_drew1 | refine below_set ?_ GE399.out) | exact HB.out)) hb); have n2_ := Aside0.mk (hbox); have n3_ := Aside0.mk ((by rw [hg]; exact (below_size (by repeat (first | (with_reducible first | exact HB.out | apply below_alloc | apply pw_below_drewN | apply below_drew1 | refine below_set ?_ GE399.out) | exact HB.out))) : w.heap.size ≤ gb400)); have n4_ := Aside0.mk ((by rw [hg]; exact (below_size (by repeat (first | (with_reducible first | exact HB.out | apply below_alloc | apply pw_below_drewN | apply below_drew1 | refine below_set ?_ GE399.out) | exact HB.out))) : w.heap.size ≤ gb400)); have n5_ := Aside0.mk ((by rw [hg]; exact Nat.ne_of_lt (blk_lt (g := gb399) (o := .cells #[.int .i64 0, .string (⟨#[]⟩ : ByteArray), .bool false, .int .i64 0, .int .i64 0, .bool false] 58 (0, 0)) (by (with_reducible repeat (first | refine blk_drewN ?_ _ | refine blk_drew ?_ | refine blk_alloc ?_ _)); exact BK399.out)) : gb399 ≠ gb400)); have n6_ := Aside0.mk ((by rw [hg]; exact Nat.ne_of_gt (blk_lt (g := gb399) (o := .cells #[.int .i64 0, .string (⟨#[]⟩ : ByteArray), .bool false, .int .i64 0, .int .i64 0, .bool false] 58 (0, 0)) (by (with_reducible repeat (first | refine blk_drewN ?_ _ | refine blk_drew ?_ | refine blk_alloc ?_ _)); exact BK399.out)) : gb400 ≠ gb399)); clear BK399; clear HB; have BK399 := n0_; have HB := n1_; have BK400 := n2_; have GW400 := n3_; have GE400 := n4_; have NB399_400 := n5_; have NB400_399 := n6_; clear n0_ n1_ n2_ n3_ n4_ n5_ n6_; clear hb hbox hg; have hnb5 := NB400_399.out; have hnc5 := NB399_400.out; have hcz6_0 : w4.cell? ⟨gb400, 0, none⟩ = some (.int .i64 0) := (blk_cell BK400.out 0).trans rfl; have hcz6_1 : w4.cell? ⟨gb400, 1, none⟩ = some (.string (⟨#[]⟩ : ByteArray)) := (blk_cell BK400.out 1).trans rfl; have hcz6_2 : w4.cell? ⟨gb400, 2, none⟩ = some (.bool false) := (blk_cell BK400.out 2).trans rfl; have hcz6_3 : w4.cell? ⟨gb400, 3, none⟩ = some (.int .i64 0) := (blk_cell BK400.out 3).trans rfl; have hcz6_4 : w4.cell? ⟨gb400, 4, none⟩ = some (.int .i64 0) := (blk_cell BK400.out 4).trans rfl; have hcz6_5 : w4.cell? ⟨gb400, 5, none⟩ = some (.bool false) := (blk_cell BK400.out 5).trans rfl; have hfz6_0 := blk_frozen BK400.out 0; have hfz6_1 := blk_frozen BK400.out 1; have hfz6_2 := blk_frozen BK400.out 2; have hfz6_3 := blk_frozen BK400.out 3; have hfz6_4 := blk_frozen BK400.out 4; have hfz6_5 := blk_frozen BK400.out 5))
  go_loopg [6] k (fun kq v6 w' => ∃ (x6_1 : Int) (x401000_1 : Int) (x401001_1 : ByteArray) (x401002_1 : Bool) (x401003_1 : Int) (x401004_1 : Int) (x401005_1 : Bool), v6 = .int .i64 x6_1 ∧ Aside0 (crossbarlaw16_run.l0 kq l0 l1 x6_1 x401000_1 x401001_1 x401002_1 x401003_1 x401004_1 x401005_1 = some (r1, r2, r3, r4, r5, r6)) ∧ Aside0 (kq ≤ k) ∧ Aside0 (w'.heap[gb399]? = some (.cells #[.int .i64 0, .string (⟨#[]⟩ : ByteArray), .bool false, .int .i64 0, .int .i64 0, .bool false] 58 (0, 0))) ∧ Aside0 (w'.heap[gb400]? = some (.cells #[.int .i64 x401000_1, .string x401001_1, .bool x401002_1, .int .i64 x401003_1, .int .i64 x401004_1, .bool x401005_1] 58 (0, 0))) ∧ Aside0 (Below w.heap.size w w'))
  case atStart => exact ⟨(0), (0), ((⟨#[]⟩ : ByteArray)), (false), (0), (0), (true), (by first | rfl | (simp; done) | (simp [*]; done)), H', ⟨Nat.le_refl _⟩, ⟨by (with_reducible repeat (first | refine blk_drewN ?_ _ | refine blk_drew ?_ | refine blk_alloc ?_ _)); refine blk_far ?_ NB399_400.out _; (with_reducible repeat (first | refine blk_drewN ?_ _ | refine blk_drew ?_ | refine blk_alloc ?_ _)); refine blk_far ?_ NB399_400.out _; (with_reducible repeat (first | refine blk_drewN ?_ _ | refine blk_drew ?_ | refine blk_alloc ?_ _)); refine blk_far ?_ NB399_400.out _; (with_reducible repeat (first | refine blk_drewN ?_ _ | refine blk_drew ?_ | refine blk_alloc ?_ _)); refine blk_far ?_ NB399_400.out _; (with_reducible repeat (first | refine blk_drewN ?_ _ | refine blk_drew ?_ | refine blk_alloc ?_ _)); refine blk_far ?_ NB399_400.out _; (with_reducible repeat (first | refine blk_drewN ?_ _ | refine blk_drew ?_ | refine blk_alloc ?_ _)); refine blk_far ?_ NB399_400.out _; (with_reducible repeat (first | refine blk_drewN ?_ _ | refine blk_drew ?_ | refine blk_alloc ?_ _)); exact BK399.out⟩, ⟨by (with_reducible repeat (first | refine blk_drewN ?_ _ | refine blk_drew ?_ | refine blk_alloc ?_ _)); refine blk_put (cs := #[.int .i64 0, .string (⟨#[]⟩ : ByteArray), .bool false, .int .i64 0, .int .i64 0, .bool false]) ?_ 5 _ rfl; (with_reducible repeat (first | refine blk_drewN ?_ _ | refine blk_drew ?_ | refine blk_alloc ?_ _)); refine blk_put (cs := #[.int .i64 0, .string (⟨#[]⟩ : ByteArray), .bool false, .int .i64 0, .int .i64 0, .bool false]) ?_ 4 _ rfl; (with_reducible repeat (first | refine blk_drewN ?_ _ | refine blk_drew ?_ | refine blk_alloc ?_ _)); refine blk_put (cs := #[.int .i64 0, .string (⟨#[]⟩ : ByteArray), .bool false, .int .i64 0, .int .i64 0, .bool false]) ?_ 3 _ rfl; (with_reducible repeat (first | refine blk_drewN ?_ _ | refine blk_drew ?_ | refine blk_alloc ?_ _)); refine blk_put (cs := #[.int .i64 0, .string (⟨#[]⟩ : ByteArray), .bool false, .int .i64 0, .int .i64 0, .bool false]) ?_ 2 _ rfl; (with_reducible repeat (first | refine blk_drewN ?_ _ | refine blk_drew ?_ | refine blk_alloc ?_ _)); refine blk_put (cs := #[.int .i64 0, .string (⟨#[]⟩ : ByteArray), .bool false, .int .i64 0, .int .i64 0, .bool false]) ?_ 1 _ rfl; (with_reducible repeat (first | refine blk_drewN ?_ _ | refine blk_drew ?_ | refine blk_alloc ?_ _)); refine blk_put (cs := #[.int .i64 0, .string (⟨#[]⟩ : ByteArray), .bool false, .int .i64 0, .int .i64 0, .bool false]) ?_ 0 _ rfl; (with_reducible repeat (first | refine blk_drewN ?_ _ | refine blk_drew ?_ | refine blk_alloc ?_ _)); exact BK400.out⟩, ⟨by repeat (first | (with_reducible first | exact HB.out | apply below_alloc | apply pw_below_drewN | apply below_drew1 | refine below_set ?_ GE399.out | refine below_set ?_ GE400.out) | exact HB.out)⟩⟩
  case round =>
    clear H'
    try clear c1
    try clear p2
    try clear c3
    try clear c5
    try clear hcz6_0
    try clear hcz6_1
    try clear hcz6_2
    try clear hcz6_3
    try clear hcz6_4
    try clear hcz6_5
    try clear hfz6_0
    try clear hfz6_1
    try clear hfz6_2
    try clear hfz6_3
    try clear hfz6_4
    try clear hfz6_5
    obtain ⟨x6_1, x401000_1, x401001_1, x401002_1, x401003_1, x401004_1, x401005_1, rfl, HA, HK1, BK399, BK400, HB⟩ := hrel
    cases gk with
    | zero => exact absurd HA.out (by simp [crossbarlaw16_run.l0])
    | succ k1 =>
      have H := HA.out
      clear HA
      simp only [crossbarlaw16_run.l0] at H
      by_cases c7 : x6_1 < (l1.length : Int)
      · rw [if_pos c7] at H
        have c7b0 : decide (x6_1 < (l1.length : Int)) = true := decide_eq_true c7
        clear c7
        by_cases c8 : 0 ≤ x6_1
        · rw [if_pos c8] at H
          have c8b0 : decide (0 ≤ x6_1) = true := decide_eq_true c8
          clear c8
          replace H := Option.bind_eq_some_iff.mp H
          obtain ⟨⟨t402, t403, t404, t407⟩, A90, H⟩ := H
          replace H : (if t407 = 0 then (if ((rd_T47 l1 x6_1).f0) = 4 then (crossbarlaw16_run.j1 k1 l0 l1 x6_1 t404 x401000_1 x401001_1 false x401003_1 x401004_1 x401005_1 t402 t403) else (crossbarlaw16_run.j1 k1 l0 l1 x6_1 t404 x401000_1 x401001_1 x401002_1 x401003_1 x401004_1 x401005_1 t402 t403)) else (if x401005_1 = true then (if (t404.length : Int) = 0 then (crossbarlaw16_run.l0 k1 l0 l1 (wrap64 (x6_1 + 1)) x401000_1 x401001_1 x401002_1 x401003_1 x401004_1 (t402 == 0 && (t403.toList == ([] : List UInt8)))) else (crossbarlaw16_run.l0 k1 l0 l1 (wrap64 (x6_1 + 1)) x401000_1 x401001_1 x401002_1 x401003_1 x401004_1 false)) else (crossbarlaw16_run.l0 k1 l0 l1 (wrap64 (x6_1 + 1)) x401000_1 x401001_1 x401002_1 x401003_1 x401004_1 false))) = some (r1, r2, r3, r4, r5, r6) := H
          have A9 := Aside0.mk A90
          clear A90
          by_cases c10 : t407 = 0
          · rw [if_pos c10] at H
            have c10b0 : (t407 == 0) = true := beq_iff_eq.mpr c10
            have c10b1 : (t407 != 0) = false := bne_eq_false_iff_eq.mpr c10
            clear c10
            have HC11 := Aside0.mk H
            clear H
            try go_wp2
            have n0_ := Aside0.mk (blk_drew BK399.out)
            have n1_ := Aside0.mk (blk_drew BK400.out)
            have n2_ := Aside0.mk (below_drew1 HB.out)
            clear BK399
            clear BK400
            clear HB
            have BK399 := n0_
            have BK400 := n1_
            have HB := n2_
            clear n0_ n1_ n2_
            have p401 : 0 ≤ (x6_1 : Int) := of_decide_eq_true (by first | (with_reducible assumption) | assumption)
            have q401 : x6_1 < (l1.length : Int) := of_decide_eq_true (by first | (with_reducible assumption) | assumption)
            obtain ⟨ad401, e401, hx401_0, hx401_1, hx401_2⟩ := at_T47 HR1.out x6_1 p401 q401
            have hw401_2 := hx401_2
            have hw401_1 := hx401_1
            have hw401_0 := hx401_0
            cases e401
            replace hx401_0 := (HB.out.cell (World.block_lt_of_cell? w _ hx401_0)).trans hx401_0
            replace hx401_1 := (HB.out.cell (World.block_lt_of_cell? w _ hx401_1)).trans hx401_1
            replace hx401_2 := (HB.out.cell (World.block_lt_of_cell? w _ hx401_2)).trans hx401_2
            replace p401 := eq_true p401
            replace q401 := eq_true q401
            refine start_ (n := 16) (S := fun w' => w'.cell? ⟨gb400, 0, none⟩ = some (.int .i64 x401000_1) ∧ w'.cell? ⟨gb400, 1, none⟩ = some (.string x401001_1) ∧ w'.cell? ⟨gb400, 2, none⟩ = some (.bool x401002_1) ∧ w'.cell? ⟨gb400, 3, none⟩ = some (.int .i64 x401003_1) ∧ w'.cell? ⟨gb400, 4, none⟩ = some (.int .i64 x401004_1) ∧ w'.cell? ⟨gb400, 5, none⟩ = some (.bool x401005_1) ∧ w'.cell? (ad401.add ((x6_1).toNat * 3)) = some (.int .i64 ((rd_T47 l1 x6_1).f0)) ∧ w'.cell? ⟨(ad401.add ((x6_1).toNat * 3)).block, (ad401.add ((x6_1).toNat * 3)).off + 1, none⟩ = some (.int .i64 ((rd_T47 l1 x6_1).f1)) ∧ w'.cell? ⟨(ad401.add ((x6_1).toNat * 3)).block, (ad401.add ((x6_1).toNat * 3)).off + 2, none⟩ = some (.int .u8 ((rd_T47 l1 x6_1).f2))) (ds := []) #[false, false, false, false, false, false, false, false, false, false, false, false, false, false, false, false] (by kernel_rfl) rfl rfl ⟨(blk_cell BK400.out 0).trans rfl, (blk_cell BK400.out 1).trans rfl, (blk_cell BK400.out 2).trans rfl, (blk_cell BK400.out 3).trans rfl, (blk_cell BK400.out 4).trans rfl, (blk_cell BK400.out 5).trans rfl, ((HB.out.cell (World.block_lt_of_cell? w _ hw401_0)).trans hw401_0), ((HB.out.cell (World.block_lt_of_cell? w _ hw401_1)).trans hw401_1), ((HB.out.cell (World.block_lt_of_cell? w _ hw401_2)).trans hw401_2)⟩ (fun hHeld => ?_); refine with_tabW crossbarlaw16_run.tab5 crossbarlaw16_run.bits5 (fun HT_ HW_ => ?_)
            generalize wr.drew = w12 at BK399 BK400 HB hx401_0 hx401_1 hx401_2 hHeld ⊢
            refine pure_ (i := 0) (N := some 19) (v := ?_) (a' := ?_) #[true, false, false, false, false, false, false, false, false, false, false, false, false, false, false, false] rfl rfl (any_of HT_.out (by kernel_rfl)) (fun _ _ _ h => h) (Or.inl ⟨by rfl, ?_⟩) ?_ ?_
            rotate_left
            · intro w'
              go_simp
              with_reducible rfl
            rotate_left
            · simp only [Act.put, List.setIfInBounds_toArray, List.set_cons_zero, List.set_cons_succ]
              rfl
            refine pure_ (i := 2) (N := some 21) (v := ?_) (a' := ?_) #[true, false, true, false, false, false, false, false, false, false, false, false, false, false, false, false] rfl rfl (any_of HT_.out (by kernel_rfl)) (fun _ _ _ h => h) (Or.inl ⟨by rfl, ?_⟩) ?_ ?_
            rotate_left
            · intro w'
              go_simp
              with_reducible rfl
            rotate_left
            · simp only [Act.put, List.setIfInBounds_toArray, List.set_cons_zero, List.set_cons_succ]
              rfl
            refine pure_ (i := 3) (N := some 22) (v := ?_) (a' := ?_) #[true, false, true, true, false, false, false, false, false, false, false, false, false, false, false, false] rfl rfl (any_of HT_.out (by kernel_rfl)) (fun _ _ _ h => h) (Or.inl ⟨by rfl, ?_⟩) ?_ ?_
            rotate_left
            · intro w'
              go_simp
              with_reducible rfl
            rotate_left
            · simp only [Act.put, List.setIfInBounds_toArray, List.set_cons_zero, List.set_cons_succ]
              rfl
            refine pure_ (i := 4) (N := some 23) (v := ?_) (a' := ?_) #[true, false, true, true, true, false, false, false, false, false, false, false, false, false, false, false] rfl rfl (any_of HT_.out (by kernel_rfl)) (fun _ _ _ h => h) (Or.inl ⟨by rfl, ?_⟩) ?_ ?_
            rotate_left
            · intro w'
              go_simp
              with_reducible rfl
            rotate_left
            · simp only [Act.put, List.setIfInBounds_toArray, List.set_cons_zero, List.set_cons_succ]
              rfl
            refine pure_ (i := 5) (N := some 24) (v := ?_) (a' := ?_) #[true, false, true, true, true, true, false, false, false, false, false, false, false, false, false, false] rfl rfl (any_of HT_.out (by kernel_rfl)) (fun _ _ _ h => h) (Or.inl ⟨by rfl, ?_⟩) ?_ ?_
            rotate_left
            · intro w'
              go_simp
              with_reducible rfl
            rotate_left
            · simp only [Act.put, List.setIfInBounds_toArray, List.set_cons_zero, List.set_cons_succ]
              rfl
            refine take_ (i := 1) (N := some 20) (v := ?_) (a' := ?_) #[true, true, true, true, true, true, false, false, false, false, false, false, false, false, false, false] rfl rfl (take_ofW HT_.out HW_.out (by kernel_rfl)) (fun _ _ _ h => h) (Or.inl ⟨by rfl, ?_⟩) hHeld ?_ ?_
            rotate_left
            · rintro w' ⟨s0, s1, s2, s3, s4, s5, s6, s7, s8⟩
              go_simp
              with_reducible rfl
            rotate_left
            · simp only [Act.put, List.setIfInBounds_toArray, List.set_cons_zero, List.set_cons_succ]
              rfl
            refine take_ (i := 6) (N := some 25) (v := ?_) (a' := ?_) #[true, true, true, true, true, true, true, false, false, false, false, false, false, false, false, false] rfl rfl (take_ofW HT_.out HW_.out (by kernel_rfl)) (fun _ _ _ h => h) (Or.inl ⟨by rfl, ?_⟩) hHeld ?_ ?_
            rotate_left
            · rintro w' ⟨s0, s1, s2, s3, s4, s5, s6, s7, s8⟩
              go_simp
              with_reducible rfl
            rotate_left
            · simp only [Act.put, List.setIfInBounds_toArray, List.set_cons_zero, List.set_cons_succ]
              rfl
            refine join_ (σ := Value × Nat) 3 #[true, true, true, true, true, true, true, true, true, true, true, true, true, false, false, false] (fun s_ => [(26, .tuple #[.agg #[.int .i64 t402, .string t403], s_.1, .int .i64 t407]), (7, .pointer (some ⟨s_.2, 0, none⟩)), (18, .tuple #[.agg #[.int .i64 t402, .string t403], s_.1, .int .i64 t407]), (27, .agg #[.int .i64 t402, .string t403]), (28, s_.1), (29, .int .i64 t407)]) (fun s_ w' => (w'.cell? ⟨gb400, 0, none⟩ = some (.int .i64 x401000_1) ∧ w'.cell? ⟨gb400, 1, none⟩ = some (.string x401001_1) ∧ w'.cell? ⟨gb400, 2, none⟩ = some (.bool x401002_1) ∧ w'.cell? ⟨gb400, 3, none⟩ = some (.int .i64 x401003_1) ∧ w'.cell? ⟨gb400, 4, none⟩ = some (.int .i64 x401004_1) ∧ w'.cell? ⟨gb400, 5, none⟩ = some (.bool x401005_1) ∧ w'.cell? (ad401.add ((x6_1).toNat * 3)) = some (.int .i64 ((rd_T47 l1 x6_1).f0)) ∧ w'.cell? ⟨(ad401.add ((x6_1).toNat * 3)).block, (ad401.add ((x6_1).toNat * 3)).off + 1, none⟩ = some (.int .i64 ((rd_T47 l1 x6_1).f1)) ∧ w'.cell? ⟨(ad401.add ((x6_1).toNat * 3)).block, (ad401.add ((x6_1).toNat * 3)).off + 2, none⟩ = some (.int .u8 ((rd_T47 l1 x6_1).f2))) ∧ (Kd.R k62 62 w' w.heap.size (fun _ => True) s_.1 t404) ∧ (w'.heap[gb399]? = some (.cells #[.int .i64 0, .string (⟨#[]⟩ : ByteArray), .bool false, .int .i64 0, .int .i64 0, .bool false] 58 (0, 0))) ∧ (w'.heap[gb400]? = some (.cells #[.int .i64 x401000_1, .string x401001_1, .bool x401002_1, .int .i64 x401003_1, .int .i64 x401004_1, .bool x401005_1] 58 (0, 0))) ∧ (w'.heap[s_.2]? = some (.cells #[.int .i64 0, .string (⟨#[]⟩ : ByteArray)] 45 (0, 0))) ∧ (w.heap.size ≤ s_.2) ∧ (w.heap.size ≤ s_.2) ∧ (gb399 ≠ s_.2) ∧ (s_.2 ≠ gb399) ∧ (gb400 ≠ s_.2) ∧ (s_.2 ≠ gb400) ∧ (Below w.heap.size w w')) ?_ ?_
            rotate_left
            · intro hCont
              refine two_ (i := 7) (j := 12) (Ni := some 26) (Nj := some 7) #[true, true, true, true, true, true, true, true, false, false, false, false, false, false, false, false] #[true, true, true, true, true, true, true, false, false, false, false, false, true, false, false, false] rfl rfl rfl rfl (two_of HT_.out (by kernel_rfl)) (by decide) (by decide) (fun K hK => ?_) (fun K hK => ?_)
              · skip
                refine goes_ Tryd.func24 (by kernel_rfl) rfl #[.agg #[.int .i64 x401000_1, .string x401001_1], .slice A0 l0.length c0, .agg #[.int .i64 ((rd_T47 l1 x6_1).f0), .int .i64 ((rd_T47 l1 x6_1).f1), .int .u8 ((rd_T47 l1 x6_1).f2)]] (by rfl) rfl rfl (by (try simp only [List.map_toArray, List.map_cons, List.map_nil]); first | done | rfl | (simp only [List.length_drop, List.length_take]; rfl)) ?_
                with_reducible refine (origin_Step.calls k1 x401000_1 x401001_1 _ _ l0 ((rd_T47 l1 x6_1).f0) ((rd_T47 l1 x6_1).f1) ((rd_T47 l1 x6_1).f2) t402 t403 t404 t407 _ ?side1 ?side2 A9.out).mono ?_
                (case side1 => repeat (first | exact (Kd.C_below HR0.out HB.out) | (with_reducible refine Kd.C_alloc ?_ _) | (with_reducible refine Kd.C_drewN ?_ _) | (with_reducible refine Kd.C_drew ?_)))
                (case side2 => exact HC0.out)
                rintro e w13 ⟨v405, rfl, ho0, hb⟩
                refine ⟨_, rfl, ?_⟩
                have n0_ := Aside0.mk (Kd.R_lower ho0 (below_size (by repeat (first | (with_reducible first | exact HB.out | apply below_alloc | apply pw_below_drewN | apply below_drew1 | refine below_set ?_ GE399.out | refine below_set ?_ GE400.out) | exact HB.out))))
                have n1_ := Aside0.mk (blk_below (g := gb399) (o := .cells #[.int .i64 0, .string (⟨#[]⟩ : ByteArray), .bool false, .int .i64 0, .int .i64 0, .bool false] 58 (0, 0)) (by (with_reducible repeat (first | refine blk_drewN ?_ _ | refine blk_drew ?_ | refine blk_alloc ?_ _)); exact BK399.out) hb)
                have n2_ := Aside0.mk (blk_below (g := gb400) (o := .cells #[.int .i64 x401000_1, .string x401001_1, .bool x401002_1, .int .i64 x401003_1, .int .i64 x401004_1, .bool x401005_1] 58 (0, 0)) (by (with_reducible repeat (first | refine blk_drewN ?_ _ | refine blk_drew ?_ | refine blk_alloc ?_ _)); exact BK400.out) hb)
                have n3_ := Aside0.mk (below_step (by repeat (first | (with_reducible first | exact HB.out | apply below_alloc | apply pw_below_drewN | apply below_drew1 | refine below_set ?_ GE399.out | refine below_set ?_ GE400.out) | exact HB.out)) hb)
                clear BK399
                clear BK400
                clear HB
                have HO406 := n0_
                have BK399 := n1_
                have BK400 := n2_
                have HB := n3_
                clear n0_ n1_ n2_ n3_
                (try clear hb)
                (try clear hb2)
                (try clear hk)
                (try clear hi)
                (try clear ho0)
                refine hK.out _ _ ⟨(blk_cell BK400.out 0).trans rfl, (blk_cell BK400.out 1).trans rfl, (blk_cell BK400.out 2).trans rfl, (blk_cell BK400.out 3).trans rfl, (blk_cell BK400.out 4).trans rfl, (blk_cell BK400.out 5).trans rfl, ((HB.out.cell (World.block_lt_of_cell? w _ hw401_0)).trans hw401_0), ((HB.out.cell (World.block_lt_of_cell? w _ hw401_1)).trans hw401_1), ((HB.out.cell (World.block_lt_of_cell? w _ hw401_2)).trans hw401_2)⟩ (fun hHeld => ?_)
                clear hK K
                refine norm_ (a' := ?_) ?_ ?_
                rotate_left
                · show Act.put _ (some 26) _ = _
                  simp only [Act.put, List.setIfInBounds_toArray, List.set_cons_zero, List.set_cons_succ]
                  rfl
                refine pure_ (i := 8) (N := some 18) (v := ?_) (a' := ?_) #[true, true, true, true, true, true, true, true, true, false, false, false, false, false, false, false] rfl rfl (any_of HT_.out (by kernel_rfl)) (fun _ _ _ h => h) (Or.inl ⟨by rfl, ?_⟩) ?_ ?_
                rotate_left
                · intro w'
                  go_simp
                  with_reducible rfl
                rotate_left
                · simp only [Act.put, List.setIfInBounds_toArray, List.set_cons_zero, List.set_cons_succ]
                  rfl
                refine pure_ (i := 9) (N := some 27) (v := ?_) (a' := ?_) #[true, true, true, true, true, true, true, true, true, true, false, false, false, false, false, false] rfl rfl (any_of HT_.out (by kernel_rfl)) (fun _ _ _ h => h) (Or.inl ⟨by rfl, ?_⟩) ?_ ?_
                rotate_left
                · intro w'
                  go_simp
                  with_reducible rfl
                rotate_left
                · simp only [Act.put, List.setIfInBounds_toArray, List.set_cons_zero, List.set_cons_succ]
                  rfl
                refine pure_ (i := 10) (N := some 28) (v := ?_) (a' := ?_) #[true, true, true, true, true, true, true, true, true, true, true, false, false, false, false, false] rfl rfl (any_of HT_.out (by kernel_rfl)) (fun _ _ _ h => h) (Or.inl ⟨by rfl, ?_⟩) ?_ ?_
                rotate_left
                · intro w'
                  go_simp
                  with_reducible rfl
                rotate_left
                · simp only [Act.put, List.setIfInBounds_toArray, List.set_cons_zero, List.set_cons_succ]
                  rfl
                refine pure_ (i := 11) (N := some 29) (v := ?_) (a' := ?_) #[true, true, true, true, true, true, true, true, true, true, true, true, false, false, false, false] rfl rfl (any_of HT_.out (by kernel_rfl)) (fun _ _ _ h => h) (Or.inl ⟨by rfl, ?_⟩) ?_ ?_
                rotate_left
                · intro w'
                  go_simp
                  with_reducible rfl
                rotate_left
                · simp only [Act.put, List.setIfInBounds_toArray, List.set_cons_zero, List.set_cons_succ]
                  rfl
                refine one_ (i := 12) (N := some 7) #[true, true, true, true, true, true, true, true, true, true, true, true, true, false, false, false] rfl rfl (one_of HT_.out (by kernel_rfl)) (by decide) (fun K hK => ?_)
                refine box_step ?hg (N := 7) ?hd (cs := #[.int .i64 0, .string (⟨#[]⟩ : ByteArray)]) (t := 45) ?hr ?_; (case hd => rfl); (case hg => rfl); (case hr => first | (go_simp; done) | (go_simp; rfl))
                intro gb408 hg w14 hbox hb
                have n0_ := Aside0.mk (Kd.R_below (by (with_reducible repeat (first | apply Kd.R_alloc | apply Kd.R_drewN | apply Kd.R_drew)); exact HO406.out) hb)
                have n1_ := Aside0.mk (blk_below (g := gb399) (o := .cells #[.int .i64 0, .string (⟨#[]⟩ : ByteArray), .bool false, .int .i64 0, .int .i64 0, .bool false] 58 (0, 0)) (by (with_reducible repeat (first | refine blk_drewN ?_ _ | refine blk_drew ?_ | refine blk_alloc ?_ _)); exact BK399.out) hb)
                have n2_ := Aside0.mk (blk_below (g := gb400) (o := .cells #[.int .i64 x401000_1, .string x401001_1, .bool x401002_1, .int .i64 x401003_1, .int .i64 x401004_1, .bool x401005_1] 58 (0, 0)) (by (with_reducible repeat (first | refine blk_drewN ?_ _ | refine blk_drew ?_ | refine blk_alloc ?_ _)); exact BK400.out) hb)
                have n3_ := Aside0.mk (below_step (by repeat (first | (with_reducible first | exact HB.out | apply below_alloc | apply pw_below_drewN | apply below_drew1 | refine below_set ?_ GE399.out | refine below_set ?_ GE400.out) | exact HB.out)) hb)
                have n4_ := Aside0.mk (hbox)
                have n5_ := Aside0.mk ((by rw [hg]; exact (below_size (by repeat (first | (with_reducible first | exact HB.out | apply below_alloc | apply pw_below_drewN | apply below_drew1 | refine below_set ?_ GE399.out | refine below_set ?_ GE400.out) | exact HB.out))) : w.heap.size ≤ gb408))
                have n6_ := Aside0.mk ((by rw [hg]; exact (below_size (by repeat (first | (with_reducible first | exact HB.out | apply below_alloc | apply pw_below_drewN | apply below_drew1 | refine below_set ?_ GE399.out | refine below_set ?_ GE400.out) | exact HB.out))) : w.heap.size ≤ gb408))
                have n7_ := Aside0.mk ((by rw [hg]; exact Nat.ne_of_lt (blk_lt (g := gb399) (o := .cells #[.int .i64 0, .string (⟨#[]⟩ : ByteArray), .bool false, .int .i64 0, .int .i64 0, .bool false] 58 (0, 0)) (by (with_reducible repeat (first | refine blk_drewN ?_ _ | refine blk_drew ?_ | refine blk_alloc ?_ _)); exact BK399.out)) : gb399 ≠ gb408))
                have n8_ := Aside0.mk ((by rw [hg]; exact Nat.ne_of_gt (blk_lt (g := gb399) (o := .cells #[.int .i64 0, .string (⟨#[]⟩ : ByteArray), .bool false, .int .i64 0, .int .i64 0, .bool false] 58 (0, 0)) (by (with_reducible repeat (first | refine blk_drewN ?_ _ | refine blk_drew ?_ | refine blk_alloc ?_ _)); exact BK399.out)) : gb408 ≠ gb399))
                have n9_ := Aside0.mk ((by rw [hg]; exact Nat.ne_of_lt (blk_lt (g := gb400) (o := .cells #[.int .i64 x401000_1, .string x401001_1, .bool x401002_1, .int .i64 x401003_1, .int .i64 x401004_1, .bool x401005_1] 58 (0, 0)) (by (with_reducible repeat (first | refine blk_drewN ?_ _ | refine blk_drew ?_ | refine blk_alloc ?_ _)); exact BK400.out)) : gb400 ≠ gb408))
                have n10_ := Aside0.mk ((by rw [hg]; exact Nat.ne_of_gt (blk_lt (g := gb400) (o := .cells #[.int .i64 x401000_1, .string x401001_1, .bool x401002_1, .int .i64 x401003_1, .int .i64 x401004_1, .bool x401005_1] 58 (0, 0)) (by (with_reducible repeat (first | refine blk_drewN ?_ _ | refine blk_drew ?_ | refine blk_alloc ?_ _)); exact BK400.out)) : gb408 ≠ gb400))
                clear HO406
                clear BK399
                clear BK400
                clear HB
                have HO406 := n0_
                have BK399 := n1_
                have BK400 := n2_
                have HB := n3_
                have BK408 := n4_
                have GW408 := n5_
                have GE408 := n6_
                have NB399_408 := n7_
                have NB408_399 := n8_
                have NB400_408 := n9_
                have NB408_400 := n10_
                clear n0_ n1_ n2_ n3_ n4_ n5_ n6_ n7_ n8_ n9_ n10_
                clear hb hbox hg
                refine hK.out _ _ ⟨(blk_cell BK400.out 0).trans rfl, (blk_cell BK400.out 1).trans rfl, (blk_cell BK400.out 2).trans rfl, (blk_cell BK400.out 3).trans rfl, (blk_cell BK400.out 4).trans rfl, (blk_cell BK400.out 5).trans rfl, ((HB.out.cell (World.block_lt_of_cell? w _ hw401_0)).trans hw401_0), ((HB.out.cell (World.block_lt_of_cell? w _ hw401_1)).trans hw401_1), ((HB.out.cell (World.block_lt_of_cell? w _ hw401_2)).trans hw401_2)⟩ (fun hHeld => ?_)
                clear hK K
                refine norm_ (a' := ?_) ?_ ?_
                rotate_left
                · show Act.put _ (some 7) _ = _
                  simp only [Act.put, List.setIfInBounds_toArray, List.set_cons_zero, List.set_cons_succ]
                  rfl
                exact norm_ (by simp only [putAll, Act.put, List.setIfInBounds_toArray, List.set_cons_zero, List.set_cons_succ]) (hCont (v405, gb408) _ ⟨hHeld, (by (with_reducible repeat (first | apply Kd.R_alloc | apply Kd.R_drewN | apply Kd.R_drew)); exact HO406.out), (by (with_reducible repeat (first | refine blk_drewN ?_ _ | refine blk_drew ?_ | refine blk_alloc ?_ _)); exact BK399.out), (by (with_reducible repeat (first | refine blk_drewN ?_ _ | refine blk_drew ?_ | refine blk_alloc ?_ _)); exact BK400.out), (by (with_reducible repeat (first | refine blk_drewN ?_ _ | refine blk_drew ?_ | refine blk_alloc ?_ _)); exact BK408.out), GW408.out, GE408.out, NB399_408.out, NB408_399.out, NB400_408.out, NB408_400.out, (by repeat (first | (with_reducible first | exact HB.out | apply below_alloc | apply pw_below_drewN | apply below_drew1 | refine below_set ?_ GE399.out | refine below_set ?_ GE400.out | refine below_set ?_ GE408.out) | exact HB.out))⟩)
              · skip
                refine box_step ?hg (N := 7) ?hd (cs := #[.int .i64 0, .string (⟨#[]⟩ : ByteArray)]) (t := 45) ?hr ?_; (case hd => rfl); (case hg => rfl); (case hr => first | (go_simp; done) | (go_simp; rfl))
                intro gb408 hg w13 hbox hb
                have n0_ := Aside0.mk (blk_below (g := gb399) (o := .cells #[.int .i64 0, .string (⟨#[]⟩ : ByteArray), .bool false, .int .i64 0, .int .i64 0, .bool false] 58 (0, 0)) (by (with_reducible repeat (first | refine blk_drewN ?_ _ | refine blk_drew ?_ | refine blk_alloc ?_ _)); exact BK399.out) hb)
                have n1_ := Aside0.mk (blk_below (g := gb400) (o := .cells #[.int .i64 x401000_1, .string x401001_1, .bool x401002_1, .int .i64 x401003_1, .int .i64 x401004_1, .bool x401005_1] 58 (0, 0)) (by (with_reducible repeat (first | refine blk_drewN ?_ _ | refine blk_drew ?_ | refine blk_alloc ?_ _)); exact BK400.out) hb)
                have n2_ := Aside0.mk (below_step (by repeat (first | (with_reducible first | exact HB.out | apply below_alloc | apply pw_below_drewN | apply below_drew1 | refine below_set ?_ GE399.out | refine below_set ?_ GE400.out) | exact HB.out)) hb)
                have n3_ := Aside0.mk (hbox)
                have n4_ := Aside0.mk ((by rw [hg]; exact (below_size (by repeat (first | (with_reducible first | exact HB.out | apply below_alloc | apply pw_below_drewN | apply below_drew1 | refine below_set ?_ GE399.out | refine below_set ?_ GE400.out) | exact HB.out))) : w.heap.size ≤ gb408))
                have n5_ := Aside0.mk ((by rw [hg]; exact (below_size (by repeat (first | (with_reducible first | exact HB.out | apply below_alloc | apply pw_below_drewN | apply below_drew1 | refine below_set ?_ GE399.out | refine below_set ?_ GE400.out) | exact HB.out))) : w.heap.size ≤ gb408))
                have n6_ := Aside0.mk ((by rw [hg]; exact Nat.ne_of_lt (blk_lt (g := gb399) (o := .cells #[.int .i64 0, .string (⟨#[]⟩ : ByteArray), .bool false, .int .i64 0, .int .i64 0, .bool false] 58 (0, 0)) (by (with_reducible repeat (first | refine blk_drewN ?_ _ | refine blk_drew ?_ | refine blk_alloc ?_ _)); exact BK399.out)) : gb399 ≠ gb408))
                have n7_ := Aside0.mk ((by rw [hg]; exact Nat.ne_of_gt (blk_lt (g := gb399) (o := .cells #[.int .i64 0, .string (⟨#[]⟩ : ByteArray), .bool false, .int .i64 0, .int .i64 0, .bool false] 58 (0, 0)) (by (with_reducible repeat (first | refine blk_drewN ?_ _ | refine blk_drew ?_ | refine blk_alloc ?_ _)); exact BK399.out)) : gb408 ≠ gb399))
                have n8_ := Aside0.mk ((by rw [hg]; exact Nat.ne_of_lt (blk_lt (g := gb400) (o := .cells #[.int .i64 x401000_1, .string x401001_1, .bool x401002_1, .int .i64 x401003_1, .int .i64 x401004_1, .bool x401005_1] 58 (0, 0)) (by (with_reducible repeat (first | refine blk_drewN ?_ _ | refine blk_drew ?_ | refine blk_alloc ?_ _)); exact BK400.out)) : gb400 ≠ gb408))
                have n9_ := Aside0.mk ((by rw [hg]; exact Nat.ne_of_gt (blk_lt (g := gb400) (o := .cells #[.int .i64 x401000_1, .string x401001_1, .bool x401002_1, .int .i64 x401003_1, .int .i64 x401004_1, .bool x401005_1] 58 (0, 0)) (by (with_reducible repeat (first | refine blk_drewN ?_ _ | refine blk_drew ?_ | refine blk_alloc ?_ _)); exact BK400.out)) : gb408 ≠ gb400))
                clear BK399
                clear BK400
                clear HB
                have BK399 := n0_
                have BK400 := n1_
                have HB := n2_
                have BK408 := n3_
                have GW408 := n4_
                have GE408 := n5_
                have NB399_408 := n6_
                have NB408_399 := n7_
                have NB400_408 := n8_
                have NB408_400 := n9_
                clear n0_ n1_ n2_ n3_ n4_ n5_ n6_ n7_ n8_ n9_
                clear hb hbox hg
                refine hK.out _ _ ⟨(blk_cell BK400.out 0).trans rfl, (blk_cell BK400.out 1).trans rfl, (blk_cell BK400.out 2).trans rfl, (blk_cell BK400.out 3).trans rfl, (blk_cell BK400.out 4).trans rfl, (blk_cell BK400.out 5).trans rfl, ((HB.out.cell (World.block_lt_of_cell? w _ hw401_0)).trans hw401_0), ((HB.out.cell (World.block_lt_of_cell? w _ hw401_1)).trans hw401_1), ((HB.out.cell (World.block_lt_of_cell? w _ hw401_2)).trans hw401_2)⟩ (fun hHeld => ?_)
                clear hK K
                refine norm_ (a' := ?_) ?_ ?_
                rotate_left
                · show Act.put _ (some 7) _ = _
                  simp only [Act.put, List.setIfInBounds_toArray, List.set_cons_zero, List.set_cons_succ]
                  rfl
                refine one_ (i := 7) (N := some 26) #[true, true, true, true, true, true, true, true, false, false, false, false, true, false, false, false] rfl rfl (one_of HT_.out (by kernel_rfl)) (by decide) (fun K hK => ?_)
                refine goes_ Tryd.func24 (by kernel_rfl) rfl #[.agg #[.int .i64 x401000_1, .string x401001_1], .slice A0 l0.length c0, .agg #[.int .i64 ((rd_T47 l1 x6_1).f0), .int .i64 ((rd_T47 l1 x6_1).f1), .int .u8 ((rd_T47 l1 x6_1).f2)]] (by rfl) rfl rfl (by (try simp only [List.map_toArray, List.map_cons, List.map_nil]); first | done | rfl | (simp only [List.length_drop, List.length_take]; rfl)) ?_
                with_reducible refine (origin_Step.calls k1 x401000_1 x401001_1 _ _ l0 ((rd_T47 l1 x6_1).f0) ((rd_T47 l1 x6_1).f1) ((rd_T47 l1 x6_1).f2) t402 t403 t404 t407 _ ?side1 ?side2 A9.out).mono ?_
                (case side1 => repeat (first | exact (Kd.C_below HR0.out HB.out) | (with_reducible refine Kd.C_alloc ?_ _) | (with_reducible refine Kd.C_drewN ?_ _) | (with_reducible refine Kd.C_drew ?_)))
                (case side2 => exact HC0.out)
                rintro e w14 ⟨v405, rfl, ho0, hb⟩
                refine ⟨_, rfl, ?_⟩
                have n0_ := Aside0.mk (Kd.R_lower ho0 (below_size (by repeat (first | (with_reducible first | exact HB.out | apply below_alloc | apply pw_below_drewN | apply below_drew1 | refine below_set ?_ GE399.out | refine below_set ?_ GE400.out | refine below_set ?_ GE408.out) | exact HB.out))))
                have n1_ := Aside0.mk (blk_below (g := gb399) (o := .cells #[.int .i64 0, .string (⟨#[]⟩ : ByteArray), .bool false, .int .i64 0, .int .i64 0, .bool false] 58 (0, 0)) (by (with_reducible repeat (first | refine blk_drewN ?_ _ | refine blk_drew ?_ | refine blk_alloc ?_ _)); exact BK399.out) hb)
                have n2_ := Aside0.mk (blk_below (g := gb400) (o := .cells #[.int .i64 x401000_1, .string x401001_1, .bool x401002_1, .int .i64 x401003_1, .int .i64 x401004_1, .bool x401005_1] 58 (0, 0)) (by (with_reducible repeat (first | refine blk_drewN ?_ _ | refine blk_drew ?_ | refine blk_alloc ?_ _)); exact BK400.out) hb)
                have n3_ := Aside0.mk (blk_below (g := gb408) (o := .cells #[.int .i64 0, .string (⟨#[]⟩ : ByteArray)] 45 (0, 0)) (by (with_reducible repeat (first | refine blk_drewN ?_ _ | refine blk_drew ?_ | refine blk_alloc ?_ _)); exact BK408.out) hb)
                have n4_ := Aside0.mk (below_step (by repeat (first | (with_reducible first | exact HB.out | apply below_alloc | apply pw_below_drewN | apply below_drew1 | refine below_set ?_ GE399.out | refine below_set ?_ GE400.out | refine below_set ?_ GE408.out) | exact HB.out)) hb)
                clear BK399
                clear BK400
                clear BK408
                clear HB
                have HO406 := n0_
                have BK399 := n1_
                have BK400 := n2_
                have BK408 := n3_
                have HB := n4_
                clear n0_ n1_ n2_ n3_ n4_
                (try clear hb)
                (try clear hb2)
                (try clear hk)
                (try clear hi)
                (try clear ho0)
                refine hK.out _ _ ⟨(blk_cell BK400.out 0).trans rfl, (blk_cell BK400.out 1).trans rfl, (blk_cell BK400.out 2).trans rfl, (blk_cell BK400.out 3).trans rfl, (blk_cell BK400.out 4).trans rfl, (blk_cell BK400.out 5).trans rfl, ((HB.out.cell (World.block_lt_of_cell? w _ hw401_0)).trans hw401_0), ((HB.out.cell (World.block_lt_of_cell? w _ hw401_1)).trans hw401_1), ((HB.out.cell (World.block_lt_of_cell? w _ hw401_2)).trans hw401_2)⟩ (fun hHeld => ?_)
                clear hK K
                refine norm_ (a' := ?_) ?_ ?_
                rotate_left
                · show Act.put _ (some 26) _ = _
                  simp only [Act.put, List.setIfInBounds_toArray, List.set_cons_zero, List.set_cons_succ]
                  rfl
                refine pure_ (i := 8) (N := some 18) (v := ?_) (a' := ?_) #[true, true, true, true, true, true, true, true, true, false, false, false, true, false, false, false] rfl rfl (any_of HT_.out (by kernel_rfl)) (fun _ _ _ h => h) (Or.inl ⟨by rfl, ?_⟩) ?_ ?_
                rotate_left
                · intro w'
                  go_simp
                  with_reducible rfl
                rotate_left
                · simp only [Act.put, List.setIfInBounds_toArray, List.set_cons_zero, List.set_cons_succ]
                  rfl
                refine pure_ (i := 9) (N := some 27) (v := ?_) (a' := ?_) #[true, true, true, true, true, true, true, true, true, true, false, false, true, false, false, false] rfl rfl (any_of HT_.out (by kernel_rfl)) (fun _ _ _ h => h) (Or.inl ⟨by rfl, ?_⟩) ?_ ?_
                rotate_left
                · intro w'
                  go_simp
                  with_reducible rfl
                rotate_left
                · simp only [Act.put, List.setIfInBounds_toArray, List.set_cons_zero, List.set_cons_succ]
                  rfl
                refine pure_ (i := 10) (N := some 28) (v := ?_) (a' := ?_) #[true, true, true, true, true, true, true, true, true, true, true, false, true, false, false, false] rfl rfl (any_of HT_.out (by kernel_rfl)) (fun _ _ _ h => h) (Or.inl ⟨by rfl, ?_⟩) ?_ ?_
                rotate_left
                · intro w'
                  go_simp
                  with_reducible rfl
                rotate_left
                · simp only [Act.put, List.setIfInBounds_toArray, List.set_cons_zero, List.set_cons_succ]
                  rfl
                refine pure_ (i := 11) (N := some 29) (v := ?_) (a' := ?_) #[true, true, true, true, true, true, true, true, true, true, true, true, true, false, false, false] rfl rfl (any_of HT_.out (by kernel_rfl)) (fun _ _ _ h => h) (Or.inl ⟨by rfl, ?_⟩) ?_ ?_
                rotate_left
                · intro w'
                  go_simp
                  with_reducible rfl
                rotate_left
                · simp only [Act.put, List.setIfInBounds_toArray, List.set_cons_zero, List.set_cons_succ]
                  rfl
                exact norm_ (by simp only [putAll, Act.put, List.setIfInBounds_toArray, List.set_cons_zero, List.set_cons_succ]) (hCont (v405, gb408) _ ⟨hHeld, (by (with_reducible repeat (first | apply Kd.R_alloc | apply Kd.R_drewN | apply Kd.R_drew)); exact HO406.out), (by (with_reducible repeat (first | refine blk_drewN ?_ _ | refine blk_drew ?_ | refine blk_alloc ?_ _)); exact BK399.out), (by (with_reducible repeat (first | refine blk_drewN ?_ _ | refine blk_drew ?_ | refine blk_alloc ?_ _)); exact BK400.out), (by (with_reducible repeat (first | refine blk_drewN ?_ _ | refine blk_drew ?_ | refine blk_alloc ?_ _)); exact BK408.out), GW408.out, GE408.out, NB399_408.out, NB408_399.out, NB400_408.out, NB408_400.out, (by repeat (first | (with_reducible first | exact HB.out | apply below_alloc | apply pw_below_drewN | apply below_drew1 | refine below_set ?_ GE399.out | refine below_set ?_ GE400.out | refine below_set ?_ GE408.out) | exact HB.out))⟩)
            rintro ⟨v405, gb408⟩ w15 ⟨hS_, h0_, h1_, h2_, h3_, h4_, h5_, h6_, h7_, h8_, h9_, h10_⟩
            have n0_ : Aside0 (Kd.R k62 62 w15 w.heap.size (fun _ => True) v405 t404) := ⟨h0_⟩
            have n1_ : Aside0 (w15.heap[gb399]? = some (.cells #[.int .i64 0, .string (⟨#[]⟩ : ByteArray), .bool false, .int .i64 0, .int .i64 0, .bool false] 58 (0, 0))) := ⟨h1_⟩
            have n2_ : Aside0 (w15.heap[gb400]? = some (.cells #[.int .i64 x401000_1, .string x401001_1, .bool x401002_1, .int .i64 x401003_1, .int .i64 x401004_1, .bool x401005_1] 58 (0, 0))) := ⟨h2_⟩
            have n3_ : Aside0 (w15.heap[gb408]? = some (.cells #[.int .i64 0, .string (⟨#[]⟩ : ByteArray)] 45 (0, 0))) := ⟨h3_⟩
            have n4_ : Aside0 (w.heap.size ≤ gb408) := ⟨h4_⟩
            have n5_ : Aside0 (w.heap.size ≤ gb408) := ⟨h5_⟩
            have n6_ : Aside0 (gb399 ≠ gb408) := ⟨h6_⟩
            have n7_ : Aside0 (gb408 ≠ gb399) := ⟨h7_⟩
            have n8_ : Aside0 (gb400 ≠ gb408) := ⟨h8_⟩
            have n9_ : Aside0 (gb408 ≠ gb400) := ⟨h9_⟩
            have n10_ : Aside0 (Below w.heap.size w w15) := ⟨h10_⟩
            clear BK399
            clear BK400
            clear HB
            clear h0_ h1_ h2_ h3_ h4_ h5_ h6_ h7_ h8_ h9_ h10_
            have HO406 := n0_
            have BK399 := n1_
            have BK400 := n2_
            have BK408 := n3_
            have GW408 := n4_
            have GE408 := n5_
            have NB399_408 := n6_
            have NB408_399 := n7_
            have NB400_408 := n8_
            have NB408_400 := n9_
            have HB := n10_
            clear n0_ n1_ n2_ n3_ n4_ n5_ n6_ n7_ n8_ n9_ n10_
            have hHeld : w15.cell? ⟨gb400, 0, none⟩ = some (.int .i64 x401000_1) ∧ w15.cell? ⟨gb400, 1, none⟩ = some (.string x401001_1) ∧ w15.cell? ⟨gb400, 2, none⟩ = some (.bool x401002_1) ∧ w15.cell? ⟨gb400, 3, none⟩ = some (.int .i64 x401003_1) ∧ w15.cell? ⟨gb400, 4, none⟩ = some (.int .i64 x401004_1) ∧ w15.cell? ⟨gb400, 5, none⟩ = some (.bool x401005_1) ∧ w15.cell? (ad401.add ((x6_1).toNat * 3)) = some (.int .i64 ((rd_T47 l1 x6_1).f0)) ∧ w15.cell? ⟨(ad401.add ((x6_1).toNat * 3)).block, (ad401.add ((x6_1).toNat * 3)).off + 1, none⟩ = some (.int .i64 ((rd_T47 l1 x6_1).f1)) ∧ w15.cell? ⟨(ad401.add ((x6_1).toNat * 3)).block, (ad401.add ((x6_1).toNat * 3)).off + 2, none⟩ = some (.int .u8 ((rd_T47 l1 x6_1).f2)) := hS_
            refine norm_ (a' := ?_) ?_ ?_
            rotate_left
            · simp only [putAll, Act.put, List.setIfInBounds_toArray, List.set_cons_zero, List.set_cons_succ]
              rfl
            refine one_ (i := 13) (N := none) #[true, true, true, true, true, true, true, true, true, true, true, true, true, true, false, false] rfl rfl (one_of HT_.out (by kernel_rfl)) (by decide) (fun K hK => ?_)
            have hs16 : w15.cell? ⟨gb408, 0, none⟩ = some (.int .i64 0) := (blk_cell BK408.out 0).trans rfl
            have hfs16 := blk_frozen BK408.out 0
            have hns16_0 := NB399_408.out
            have hns16_1 := NB400_408.out
            have hms16_0 := NB408_399.out
            have hms16_1 := NB408_400.out
            have hs17 : w15.cell? ⟨gb408, 1, none⟩ = some (.string (⟨#[]⟩ : ByteArray)) := (blk_cell BK408.out 1).trans rfl
            have hfs17 := blk_frozen BK408.out 1
            have hns17_0 := NB399_408.out
            have hns17_1 := NB400_408.out
            have hms17_0 := NB408_399.out
            have hms17_1 := NB408_400.out
            refine skip_ (w1 := ?_) (by rfl) rfl ?_ ?_
            rotate_left
            · go_simp
              rfl
            refine hK.out _ _ ⟨((cell_far (p := ⟨gb408, _, none⟩) NB400_408.out _).trans (((cell_far (p := ⟨gb408, _, none⟩) NB400_408.out _).trans (hHeld.1)))), ((cell_far (p := ⟨gb408, _, none⟩) NB400_408.out _).trans (((cell_far (p := ⟨gb408, _, none⟩) NB400_408.out _).trans (hHeld.2.1)))), ((cell_far (p := ⟨gb408, _, none⟩) NB400_408.out _).trans (((cell_far (p := ⟨gb408, _, none⟩) NB400_408.out _).trans (hHeld.2.2.1)))), ((cell_far (p := ⟨gb408, _, none⟩) NB400_408.out _).trans (((cell_far (p := ⟨gb408, _, none⟩) NB400_408.out _).trans (hHeld.2.2.2.1)))), ((cell_far (p := ⟨gb408, _, none⟩) NB400_408.out _).trans (((cell_far (p := ⟨gb408, _, none⟩) NB400_408.out _).trans (hHeld.2.2.2.2.1)))), ((cell_far (p := ⟨gb408, _, none⟩) NB400_408.out _).trans (((cell_far (p := ⟨gb408, _, none⟩) NB400_408.out _).trans (hHeld.2.2.2.2.2.1)))), ((cell_far (p := ⟨gb408, _, none⟩) (by first | exact Nat.ne_of_lt (Nat.lt_of_lt_of_le (by have := World.block_lt_of_cell? _ _ hw401_0; first | rwa [add_block] at this | exact this) GW408.out) | (rw [add_block]; exact Nat.ne_of_lt (Nat.lt_of_lt_of_le (by have := World.block_lt_of_cell? _ _ hw401_0; first | rwa [add_block] at this | exact this) GW408.out)) | (show (Addr.add _ _).block ≠ _; rw [add_block]; exact Nat.ne_of_lt (Nat.lt_of_lt_of_le (by have := World.block_lt_of_cell? _ _ hw401_0; first | rwa [add_block] at this | exact this) GW408.out)) | (dsimp only; exact Nat.ne_of_lt (Nat.lt_of_lt_of_le (by have := World.block_lt_of_cell? _ _ hw401_0; first | rwa [add_block] at this | exact this) GW408.out))) _).trans (((cell_far (p := ⟨gb408, _, none⟩) (by first | exact Nat.ne_of_lt (Nat.lt_of_lt_of_le (by have := World.block_lt_of_cell? _ _ hw401_0; first | rwa [add_block] at this | exact this) GW408.out) | (rw [add_block]; exact Nat.ne_of_lt (Nat.lt_of_lt_of_le (by have := World.block_lt_of_cell? _ _ hw401_0; first | rwa [add_block] at this | exact this) GW408.out)) | (show (Addr.add _ _).block ≠ _; rw [add_block]; exact Nat.ne_of_lt (Nat.lt_of_lt_of_le (by have := World.block_lt_of_cell? _ _ hw401_0; first | rwa [add_block] at this | exact this) GW408.out)) | (dsimp only; exact Nat.ne_of_lt (Nat.lt_of_lt_of_le (by have := World.block_lt_of_cell? _ _ hw401_0; first | rwa [add_block] at this | exact this) GW408.out))) _).trans (hHeld.2.2.2.2.2.2.1)))), ((cell_far (p := ⟨gb408, _, none⟩) (by first | exact Nat.ne_of_lt (Nat.lt_of_lt_of_le (by have := World.block_lt_of_cell? _ _ hw401_1; first | rwa [add_block] at this | exact this) GW408.out) | (rw [add_block]; exact Nat.ne_of_lt (Nat.lt_of_lt_of_le (by have := World.block_lt_of_cell? _ _ hw401_1; first | rwa [add_block] at this | exact this) GW408.out)) | (show (Addr.add _ _).block ≠ _; rw [add_block]; exact Nat.ne_of_lt (Nat.lt_of_lt_of_le (by have := World.block_lt_of_cell? _ _ hw401_1; first | rwa [add_block] at this | exact this) GW408.out)) | (dsimp only; exact Nat.ne_of_lt (Nat.lt_of_lt_of_le (by have := World.block_lt_of_cell? _ _ hw401_1; first | rwa [add_block] at this | exact this) GW408.out))) _).trans (((cell_far (p := ⟨gb408, _, none⟩) (by first | exact Nat.ne_of_lt (Nat.lt_of_lt_of_le (by have := World.block_lt_of_cell? _ _ hw401_1; first | rwa [add_block] at this | exact this) GW408.out) | (rw [add_block]; exact Nat.ne_of_lt (Nat.lt_of_lt_of_le (by have := World.block_lt_of_cell? _ _ hw401_1; first | rwa [add_block] at this | exact this) GW408.out)) | (show (Addr.add _ _).block ≠ _; rw [add_block]; exact Nat.ne_of_lt (Nat.lt_of_lt_of_le (by have := World.block_lt_of_cell? _ _ hw401_1; first | rwa [add_block] at this | exact this) GW408.out)) | (dsimp only; exact Nat.ne_of_lt (Nat.lt_of_lt_of_le (by have := World.block_lt_of_cell? _ _ hw401_1; first | rwa [add_block] at this | exact this) GW408.out))) _).trans (hHeld.2.2.2.2.2.2.2.1)))), ((cell_far (p := ⟨gb408, _, none⟩) (by first | exact Nat.ne_of_lt (Nat.lt_of_lt_of_le (by have := World.block_lt_of_cell? _ _ hw401_2; first | rwa [add_block] at this | exact this) GW408.out) | (rw [add_block]; exact Nat.ne_of_lt (Nat.lt_of_lt_of_le (by have := World.block_lt_of_cell? _ _ hw401_2; first | rwa [add_block] at this | exact this) GW408.out)) | (show (Addr.add _ _).block ≠ _; rw [add_block]; exact Nat.ne_of_lt (Nat.lt_of_lt_of_le (by have := World.block_lt_of_cell? _ _ hw401_2; first | rwa [add_block] at this | exact this) GW408.out)) | (dsimp only; exact Nat.ne_of_lt (Nat.lt_of_lt_of_le (by have := World.block_lt_of_cell? _ _ hw401_2; first | rwa [add_block] at this | exact this) GW408.out))) _).trans (((cell_far (p := ⟨gb408, _, none⟩) (by first | exact Nat.ne_of_lt (Nat.lt_of_lt_of_le (by have := World.block_lt_of_cell? _ _ hw401_2; first | rwa [add_block] at this | exact this) GW408.out) | (rw [add_block]; exact Nat.ne_of_lt (Nat.lt_of_lt_of_le (by have := World.block_lt_of_cell? _ _ hw401_2; first | rwa [add_block] at this | exact this) GW408.out)) | (show (Addr.add _ _).block ≠ _; rw [add_block]; exact Nat.ne_of_lt (Nat.lt_of_lt_of_le (by have := World.block_lt_of_cell? _ _ hw401_2; first | rwa [add_block] at this | exact this) GW408.out)) | (dsimp only; exact Nat.ne_of_lt (Nat.lt_of_lt_of_le (by have := World.block_lt_of_cell? _ _ hw401_2; first | rwa [add_block] at this | exact this) GW408.out))) _).trans (hHeld.2.2.2.2.2.2.2.2))))⟩ (fun hHeld => ?_)
            clear hK K
            refine pure_ (i := 14) (N := some 8) (v := ?_) (a' := ?_) #[true, true, true, true, true, true, true, true, true, true, true, true, true, true, true, false] rfl rfl (any_of HT_.out (by kernel_rfl)) (fun _ _ _ h => h) (Or.inl ⟨by rfl, ?_⟩) ?_ ?_
            rotate_left
            · intro w'
              go_simp
              with_reducible rfl
            rotate_left
            · simp only [Act.put, List.setIfInBounds_toArray, List.set_cons_zero, List.set_cons_succ]
              rfl
            refine pure_ (i := 15) (N := some 9) (v := ?_) (a' := ?_) #[true, true, true, true, true, true, true, true, true, true, true, true, true, true, true, true] rfl rfl (any_of HT_.out (by kernel_rfl)) (fun _ _ _ h => h) (Or.inl ⟨by rfl, ?_⟩) ?_ ?_
            rotate_left
            · intro w'
              go_simp
              with_reducible rfl
            rotate_left
            · simp only [Act.put, List.setIfInBounds_toArray, List.set_cons_zero, List.set_cons_succ]
              rfl
            refine done_ (done_of HT_.out (by kernel_rfl)) ?_
            have p409 : 0 ≤ (x6_1 : Int) := of_decide_eq_true (by first | (with_reducible assumption) | assumption)
            have q409 : x6_1 < (l1.length : Int) := of_decide_eq_true (by first | (with_reducible assumption) | assumption)
            obtain ⟨ad409, e409, hx409_0, hx409_1, hx409_2⟩ := at_T47 HR1.out x6_1 p409 q409
            obtain rfl : ad401 = ad409 := (by injection e409)
            have hn409_0 : ad401.block ≠ gb408 := Nat.ne_of_lt (Nat.lt_of_lt_of_le (by have := World.block_lt_of_cell? _ _ hx409_0; first | rwa [add_block] at this | exact this) GW408.out)
            have hn409_1 : ad401.block ≠ gb408 := Nat.ne_of_lt (Nat.lt_of_lt_of_le (by have := World.block_lt_of_cell? _ _ hx409_0; first | rwa [add_block] at this | exact this) GW408.out)
            replace hx409_0 := (HB.out.cell (World.block_lt_of_cell? w _ hx409_0)).trans hx409_0
            replace hx409_1 := (HB.out.cell (World.block_lt_of_cell? w _ hx409_1)).trans hx409_1
            replace hx409_2 := (HB.out.cell (World.block_lt_of_cell? w _ hx409_2)).trans hx409_2
            replace hx409_0 := (cell_far (p := ⟨gb408, 0, none⟩) (by first | (rw [add_block]; exact hn409_0) | (show (Addr.add _ _).block ≠ _; rw [add_block]; exact hn409_0) | exact hn409_0) (.int .i64 t402)).trans hx409_0
            replace hx409_1 := (cell_far (p := ⟨gb408, 0, none⟩) (by first | (rw [add_block]; exact hn409_0) | (show (Addr.add _ _).block ≠ _; rw [add_block]; exact hn409_0) | exact hn409_0) (.int .i64 t402)).trans hx409_1
            replace hx409_2 := (cell_far (p := ⟨gb408, 0, none⟩) (by first | (rw [add_block]; exact hn409_0) | (show (Addr.add _ _).block ≠ _; rw [add_block]; exact hn409_0) | exact hn409_0) (.int .i64 t402)).trans hx409_2
            replace hx409_0 := (cell_far (p := ⟨gb408, 1, none⟩) (by first | (rw [add_block]; exact hn409_1) | (show (Addr.add _ _).block ≠ _; rw [add_block]; exact hn409_1) | exact hn409_1) (.string t403)).trans hx409_0
            replace hx409_1 := (cell_far (p := ⟨gb408, 1, none⟩) (by first | (rw [add_block]; exact hn409_1) | (show (Addr.add _ _).block ≠ _; rw [add_block]; exact hn409_1) | exact hn409_1) (.string t403)).trans hx409_1
            replace hx409_2 := (cell_far (p := ⟨gb408, 1, none⟩) (by first | (rw [add_block]; exact hn409_1) | (show (Addr.add _ _).block ≠ _; rw [add_block]; exact hn409_1) | exact hn409_1) (.string t403)).trans hx409_2
            clear hn409_0
            clear hn409_1
            replace p409 := eq_true p409
            replace q409 := eq_true q409
            go_upto_if 50 with (fail)
            go_cut [] (fun wc => ∃ (kq : Nat) (x401002_10 : Bool), Aside0 (crossbarlaw16_run.j1 kq l0 l1 x6_1 t404 x401000_1 x401001_1 x401002_10 x401003_1 x401004_1 x401005_1 t402 t403 = some (r1, r2, r3, r4, r5, r6)) ∧ Aside0 (kq ≤ k1) ∧ Aside0 (Kd.R k62 62 wc w.heap.size (fun _ => True) v405 t404) ∧ Aside0 (wc.heap[gb399]? = some (.cells #[.int .i64 0, .string (⟨#[]⟩ : ByteArray), .bool false, .int .i64 0, .int .i64 0, .bool false] 58 (0, 0))) ∧ Aside0 (wc.heap[gb400]? = some (.cells #[.int .i64 x401000_1, .string x401001_1, .bool x401002_10, .int .i64 x401003_1, .int .i64 x401004_1, .bool x401005_1] 58 (0, 0))) ∧ Aside0 (wc.heap[gb408]? = some (.cells #[.int .i64 t402, .string t403] 45 (0, 0))) ∧ Aside0 (Below w.heap.size w wc))
            case first =>
              have H := HC11.out
              clear HC11
              by_cases c18 : ((rd_T47 l1 x6_1).f0) = 4
              · rw [if_pos c18] at H
                have c18b0 : (((rd_T47 l1 x6_1).f0) == 4) = true := beq_iff_eq.mpr c18
                have c18b1 : (((rd_T47 l1 x6_1).f0) != 4) = false := bne_eq_false_iff_eq.mpr c18
                clear c18
                (first | rw [c18b0] | (simp only [i64_w, i32_w]; rw [c18b0]) | skip)
                have H' := Aside0.mk H
                clear H
                have hnb19 := NB400_399.out
                have hnc19 := NB399_400.out
                have hnb20 := NB400_408.out
                have hnc20 := NB408_400.out
                have hcz21_0 : w15.cell? ⟨gb400, 0, none⟩ = some (.int .i64 x401000_1) := (blk_cell BK400.out 0).trans rfl
                have hcz21_1 : w15.cell? ⟨gb400, 1, none⟩ = some (.string x401001_1) := (blk_cell BK400.out 1).trans rfl
                have hcz21_2 : w15.cell? ⟨gb400, 2, none⟩ = some (.bool x401002_1) := (blk_cell BK400.out 2).trans rfl
                have hcz21_3 : w15.cell? ⟨gb400, 3, none⟩ = some (.int .i64 x401003_1) := (blk_cell BK400.out 3).trans rfl
                have hcz21_4 : w15.cell? ⟨gb400, 4, none⟩ = some (.int .i64 x401004_1) := (blk_cell BK400.out 4).trans rfl
                have hcz21_5 : w15.cell? ⟨gb400, 5, none⟩ = some (.bool x401005_1) := (blk_cell BK400.out 5).trans rfl
                have hfz21_0 := blk_frozen BK400.out 0
                have hfz21_1 := blk_frozen BK400.out 1
                have hfz21_2 := blk_frozen BK400.out 2
                have hfz21_3 := blk_frozen BK400.out 3
                have hfz21_4 := blk_frozen BK400.out 4
                have hfz21_5 := blk_frozen BK400.out 5
                go_wp2
                go_meet
                case rel => exact ⟨_, (false), H', ⟨by have := HK1.out; first | omega | exact Nat.le_refl _⟩, ⟨by (with_reducible repeat (first | apply Kd.R_alloc | apply Kd.R_drewN | apply Kd.R_drew)); exact Kd.R_mono (Kd.R_far (p := ⟨gb400, 2, none⟩) (Kd.R_far (p := ⟨gb408, 1, none⟩) (Kd.R_far (p := ⟨gb408, 0, none⟩) (Kd.R_types (Kd.R_types HO406.out BK408.out (by decide)) BK400.out (by decide)) (fun _ hk => hk.1.2) (.int .i64 t402)) (fun _ hk => hk.1.2) (.string t403)) (fun _ hk => hk.2) (.bool false)) (fun _ hk => trivial)⟩, ⟨by (with_reducible repeat (first | refine blk_drewN ?_ _ | refine blk_drew ?_ | refine blk_alloc ?_ _)); refine blk_far ?_ NB399_400.out _; (with_reducible repeat (first | refine blk_drewN ?_ _ | refine blk_drew ?_ | refine blk_alloc ?_ _)); refine blk_far ?_ NB399_408.out _; (with_reducible repeat (first | refine blk_drewN ?_ _ | refine blk_drew ?_ | refine blk_alloc ?_ _)); refine blk_far ?_ NB399_408.out _; (with_reducible repeat (first | refine blk_drewN ?_ _ | refine blk_drew ?_ | refine blk_alloc ?_ _)); exact BK399.out⟩, ⟨by (with_reducible repeat (first | refine blk_drewN ?_ _ | refine blk_drew ?_ | refine blk_alloc ?_ _)); refine blk_put (cs := #[.int .i64 x401000_1, .string x401001_1, .bool x401002_1, .int .i64 x401003_1, .int .i64 x401004_1, .bool x401005_1]) ?_ 2 _ rfl; (with_reducible repeat (first | refine blk_drewN ?_ _ | refine blk_drew ?_ | refine blk_alloc ?_ _)); refine blk_far ?_ NB400_408.out _; (with_reducible repeat (first | refine blk_drewN ?_ _ | refine blk_drew ?_ | refine blk_alloc ?_ _)); refine blk_far ?_ NB400_408.out _; (with_reducible repeat (first | refine blk_drewN ?_ _ | refine blk_drew ?_ | refine blk_alloc ?_ _)); exact BK400.out⟩, ⟨by (with_reducible repeat (first | refine blk_drewN ?_ _ | refine blk_drew ?_ | refine blk_alloc ?_ _)); refine blk_far ?_ NB408_400.out _; (with_reducible repeat (first | refine blk_drewN ?_ _ | refine blk_drew ?_ | refine blk_alloc ?_ _)); refine blk_put (cs := #[.int .i64 t402, .string (⟨#[]⟩ : ByteArray)]) ?_ 1 _ rfl; (with_reducible repeat (first | refine blk_drewN ?_ _ | refine blk_drew ?_ | refine blk_alloc ?_ _)); refine blk_put (cs := #[.int .i64 0, .string (⟨#[]⟩ : ByteArray)]) ?_ 0 _ rfl; (with_reducible repeat (first | refine blk_drewN ?_ _ | refine blk_drew ?_ | refine blk_alloc ?_ _)); exact BK408.out⟩, ⟨by repeat (first | (with_reducible first | exact HB.out | apply below_alloc | apply pw_below_drewN | apply below_drew1 | refine below_set ?_ GE399.out | refine below_set ?_ GE400.out | refine below_set ?_ GE408.out) | exact HB.out)⟩⟩
              · rw [if_neg c18] at H
                have c18b0 : (((rd_T47 l1 x6_1).f0) == 4) = false := beq_eq_false_iff_ne.mpr c18
                have c18b1 : (((rd_T47 l1 x6_1).f0) != 4) = true := bne_iff_ne.mpr c18
                (first | rw [c18b0] | (simp only [i64_w, i32_w]; rw [c18b0]) | skip)
                have H' := Aside0.mk H
                clear H
                go_wp2
                go_meet
                case rel => exact ⟨_, (x401002_1), H', ⟨by have := HK1.out; first | omega | exact Nat.le_refl _⟩, ⟨by (with_reducible repeat (first | apply Kd.R_alloc | apply Kd.R_drewN | apply Kd.R_drew)); exact Kd.R_mono (Kd.R_far (p := ⟨gb408, 1, none⟩) (Kd.R_far (p := ⟨gb408, 0, none⟩) (Kd.R_types HO406.out BK408.out (by decide)) (fun _ hk => hk.2) (.int .i64 t402)) (fun _ hk => hk.2) (.string t403)) (fun _ hk => trivial)⟩, ⟨by (with_reducible repeat (first | refine blk_drewN ?_ _ | refine blk_drew ?_ | refine blk_alloc ?_ _)); refine blk_far ?_ NB399_408.out _; (with_reducible repeat (first | refine blk_drewN ?_ _ | refine blk_drew ?_ | refine blk_alloc ?_ _)); refine blk_far ?_ NB399_408.out _; (with_reducible repeat (first | refine blk_drewN ?_ _ | refine blk_drew ?_ | refine blk_alloc ?_ _)); exact BK399.out⟩, ⟨by (with_reducible repeat (first | refine blk_drewN ?_ _ | refine blk_drew ?_ | refine blk_alloc ?_ _)); refine blk_far ?_ NB400_408.out _; (with_reducible repeat (first | refine blk_drewN ?_ _ | refine blk_drew ?_ | refine blk_alloc ?_ _)); refine blk_far ?_ NB400_408.out _; (with_reducible repeat (first | refine blk_drewN ?_ _ | refine blk_drew ?_ | refine blk_alloc ?_ _)); exact BK400.out⟩, ⟨by (with_reducible repeat (first | refine blk_drewN ?_ _ | refine blk_drew ?_ | refine blk_alloc ?_ _)); refine blk_put (cs := #[.int .i64 t402, .string (⟨#[]⟩ : ByteArray)]) ?_ 1 _ rfl; (with_reducible repeat (first | refine blk_drewN ?_ _ | refine blk_drew ?_ | refine blk_alloc ?_ _)); refine blk_put (cs := #[.int .i64 0, .string (⟨#[]⟩ : ByteArray)]) ?_ 0 _ rfl; (with_reducible repeat (first | refine blk_drewN ?_ _ | refine blk_drew ?_ | refine blk_alloc ?_ _)); exact BK408.out⟩, ⟨by repeat (first | (with_reducible first | exact HB.out | apply below_alloc | apply pw_below_drewN | apply below_drew1 | refine below_set ?_ GE399.out | refine below_set ?_ GE400.out | refine below_set ?_ GE408.out) | exact HB.out)⟩⟩
            case rest =>
              clear HC11
              try clear c1
              try clear c2
              try clear p2
              try clear c3
              try clear p4
              try clear q4
              try clear hx4
              try clear c5
              try clear p6
              try clear c7
              try clear c7b0
              try clear c8
              try clear c8b0
              try clear c10
              try clear c10b0
              try clear c10b1
              try clear c18
              try clear c18b0
              try clear c18b1
              try clear c19
              try clear c20
              try clear hcz21_0
              try clear hcz21_1
              try clear hcz21_2
              try clear hcz21_3
              try clear hcz21_4
              try clear hcz21_5
              try clear hcz6_0
              try clear hcz6_1
              try clear hcz6_2
              try clear hcz6_3
              try clear hcz6_4
              try clear hcz6_5
              try clear hfz21_0
              try clear hfz21_1
              try clear hfz21_2
              try clear hfz21_3
              try clear hfz21_4
              try clear hfz21_5
              try clear hfz6_0
              try clear hfz6_1
              try clear hfz6_2
              try clear hfz6_3
              try clear hfz6_4
              try clear hfz6_5
              try clear hx401_0
              try clear hx401_1
              try clear hx401_2
              try clear hx409_0
              try clear hx409_1
              try clear hx409_2
              try clear p2
              try clear p401
              try clear p409
              try clear q401
              try clear q409
              obtain ⟨kq, x401002_10, HA, HJ10, HO_8, BK399, BK400, BK408, HB⟩ := hcut
              cases kq with
              | zero => exact absurd HA.out (by simp [crossbarlaw16_run.j1])
              | succ kj10 =>
                have H := HA.out
                clear HA
                simp only [crossbarlaw16_run.j1] at H
                by_cases c22 : 0 ≤ x6_1
                · rw [if_pos c22] at H
                  have c22b0 : decide (0 ≤ x6_1) = true := decide_eq_true c22
                  clear c22
                  by_cases c23 : x6_1 < (l1.length : Int)
                  · rw [if_pos c23] at H
                    have c23b0 : decide (x6_1 < (l1.length : Int)) = true := decide_eq_true c23
                    clear c23
                    have HC24 := Aside0.mk H
                    clear H
                    have p410 : 0 ≤ (x6_1 : Int) := of_decide_eq_true (by first | (with_reducible assumption) | assumption)
                    have q410 : x6_1 < (l1.length : Int) := of_decide_eq_true (by first | (with_reducible assumption) | assumption)
                    obtain ⟨ad410, e410, hx410_0, hx410_1, hx410_2⟩ := at_T47 HR1.out x6_1 p410 q410
                    obtain rfl : ad401 = ad410 := (by injection e410)
                    replace hx410_0 := (HB.out.cell (World.block_lt_of_cell? w _ hx410_0)).trans hx410_0
                    replace hx410_1 := (HB.out.cell (World.block_lt_of_cell? w _ hx410_1)).trans hx410_1
                    replace hx410_2 := (HB.out.cell (World.block_lt_of_cell? w _ hx410_2)).trans hx410_2
                    replace p410 := eq_true p410
                    replace q410 := eq_true q410
                    go_upto_if 57 with (fail)
                    go_cut [] (fun wc => ∃ (kq : Nat) (x401003_23 : Int), Aside0 (crossbarlaw16_run.j2 kq l0 l1 x6_1 t404 x401000_1 x401001_1 x401002_10 x401003_23 x401004_1 x401005_1 t402 t403 = some (r1, r2, r3, r4, r5, r6)) ∧ Aside0 (kq ≤ kj10) ∧ Aside0 (Kd.R k62 62 wc w.heap.size (fun _ => True) v405 t404) ∧ Aside0 (wc.heap[gb399]? = some (.cells #[.int .i64 0, .string (⟨#[]⟩ : ByteArray), .bool false, .int .i64 0, .int .i64 0, .bool false] 58 (0, 0))) ∧ Aside0 (wc.heap[gb400]? = some (.cells #[.int .i64 x401000_1, .string x401001_1, .bool x401002_10, .int .i64 x401003_23, .int .i64 x401004_1, .bool x401005_1] 58 (0, 0))) ∧ Aside0 (wc.heap[gb408]? = some (.cells #[.int .i64 t402, .string t403] 45 (0, 0))) ∧ Aside0 (Below w.heap.size w wc))
                    case first =>
                      have H := HC24.out
                      clear HC24
                      by_cases c25 : ((rd_T47 l1 x6_1).f0) = 9
                      · rw [if_pos c25] at H
                        have c25b0 : (((rd_T47 l1 x6_1).f0) == 9) = true := beq_iff_eq.mpr c25
                        have c25b1 : (((rd_T47 l1 x6_1).f0) != 9) = false := bne_eq_false_iff_eq.mpr c25
                        clear c25
                        (first | rw [c25b0] | (simp only [i64_w, i32_w]; rw [c25b0]) | skip)
                        have H' := Aside0.mk H
                        clear H
                        have hnb26 := NB400_399.out
                        have hnc26 := NB399_400.out
                        have hnb27 := NB400_408.out
                        have hnc27 := NB408_400.out
                        have hcz28_0 : wc.cell? ⟨gb400, 0, none⟩ = some (.int .i64 x401000_1) := (blk_cell BK400.out 0).trans rfl
                        have hcz28_1 : wc.cell? ⟨gb400, 1, none⟩ = some (.string x401001_1) := (blk_cell BK400.out 1).trans rfl
                        have hcz28_2 : wc.cell? ⟨gb400, 2, none⟩ = some (.bool x401002_10) := (blk_cell BK400.out 2).trans rfl
                        have hcz28_3 : wc.cell? ⟨gb400, 3, none⟩ = some (.int .i64 x401003_1) := (blk_cell BK400.out 3).trans rfl
                        have hcz28_4 : wc.cell? ⟨gb400, 4, none⟩ = some (.int .i64 x401004_1) := (blk_cell BK400.out 4).trans rfl
                        have hcz28_5 : wc.cell? ⟨gb400, 5, none⟩ = some (.bool x401005_1) := (blk_cell BK400.out 5).trans rfl
                        have hfz28_0 := blk_frozen BK400.out 0
                        have hfz28_1 := blk_frozen BK400.out 1
                        have hfz28_2 := blk_frozen BK400.out 2
                        have hfz28_3 := blk_frozen BK400.out 3
                        have hfz28_4 := blk_frozen BK400.out 4
                        have hfz28_5 := blk_frozen BK400.out 5
                        go_wp2
                        go_meet
                        case rel => exact ⟨_, (wrap64 (x401003_1 - 1)), H', ⟨by have := HK1.out; have := HJ10.out; first | omega | exact Nat.le_refl _⟩, ⟨by (with_reducible repeat (first | apply Kd.R_alloc | apply Kd.R_drewN | apply Kd.R_drew)); exact Kd.R_mono (Kd.R_far (p := ⟨gb400, 3, none⟩) (Kd.R_types HO_8.out BK400.out (by decide)) (fun _ hk => hk.2) (.int .i64 (wrap64 (x401003_1 - 1)))) (fun _ hk => trivial)⟩, ⟨by (with_reducible repeat (first | refine blk_drewN ?_ _ | refine blk_drew ?_ | refine blk_alloc ?_ _)); refine blk_far ?_ NB399_400.out _; (with_reducible repeat (first | refine blk_drewN ?_ _ | refine blk_drew ?_ | refine blk_alloc ?_ _)); exact BK399.out⟩, ⟨by (with_reducible repeat (first | refine blk_drewN ?_ _ | refine blk_drew ?_ | refine blk_alloc ?_ _)); refine blk_put (cs := #[.int .i64 x401000_1, .string x401001_1, .bool x401002_10, .int .i64 x401003_1, .int .i64 x401004_1, .bool x401005_1]) ?_ 3 _ rfl; (with_reducible repeat (first | refine blk_drewN ?_ _ | refine blk_drew ?_ | refine blk_alloc ?_ _)); exact BK400.out⟩, ⟨by (with_reducible repeat (first | refine blk_drewN ?_ _ | refine blk_drew ?_ | refine blk_alloc ?_ _)); refine blk_far ?_ NB408_400.out _; (with_reducible repeat (first | refine blk_drewN ?_ _ | refine blk_drew ?_ | refine blk_alloc ?_ _)); exact BK408.out⟩, ⟨by repeat (first | (with_reducible first | exact HB.out | apply below_alloc | apply pw_below_drewN | apply below_drew1 | refine below_set ?_ GE399.out | refine below_set ?_ GE400.out | refine below_set ?_ GE408.out) | exact HB.out)⟩⟩
                      · rw [if_neg c25] at H
                        have c25b0 : (((rd_T47 l1 x6_1).f0) == 9) = false := beq_eq_false_iff_ne.mpr c25
                        have c25b1 : (((rd_T47 l1 x6_1).f0) != 9) = true := bne_iff_ne.mpr c25
                        (first | rw [c25b0] | (simp only [i64_w, i32_w]; rw [c25b0]) | skip)
                        have H' := Aside0.mk H
                        clear H
                        go_wp2
                        go_meet
                        case rel => exact ⟨_, (x401003_1), H', ⟨by have := HK1.out; have := HJ10.out; first | omega | exact Nat.le_refl _⟩, ⟨by (with_reducible repeat (first | apply Kd.R_alloc | apply Kd.R_drewN | apply Kd.R_drew)); exact HO_8.out⟩, ⟨by (with_reducible repeat (first | refine blk_drewN ?_ _ | refine blk_drew ?_ | refine blk_alloc ?_ _)); exact BK399.out⟩, ⟨by (with_reducible repeat (first | refine blk_drewN ?_ _ | refine blk_drew ?_ | refine blk_alloc ?_ _)); exact BK400.out⟩, ⟨by (with_reducible repeat (first | refine blk_drewN ?_ _ | refine blk_drew ?_ | refine blk_alloc ?_ _)); exact BK408.out⟩, ⟨by repeat (first | (with_reducible first | exact HB.out | apply below_alloc | apply pw_below_drewN | apply below_drew1 | refine below_set ?_ GE399.out | refine below_set ?_ GE400.out | refine below_set ?_ GE408.out) | exact HB.out)⟩⟩
                    case rest =>
                      clear HC24
                      try clear c1
                      try clear c2
                      try clear p2
                      try clear c3
                      try clear p4
                      try clear q4
                      try clear hx4
                      try clear c5
                      try clear p6
                      try clear c7
                      try clear c7b0
                      try clear c8
                      try clear c8b0
                      try clear c10
                      try clear c10b0
                      try clear c10b1
                      try clear c18
                      try clear c18b0
                      try clear c18b1
                      try clear c19
                      try clear c20
                      try clear c22
                      try clear c22b0
                      try clear c23
                      try clear c23b0
                      try clear c24
                      try clear c25
                      try clear c25b0
                      try clear c25b1
                      try clear c26
                      try clear c27
                      try clear hcz21_0
                      try clear hcz21_1
                      try clear hcz21_2
                      try clear hcz21_3
                      try clear hcz21_4
                      try clear hcz21_5
                      try clear hcz28_0
                      try clear hcz28_1
                      try clear hcz28_2
                      try clear hcz28_3
                      try clear hcz28_4
                      try clear hcz28_5
                      try clear hcz6_0
                      try clear hcz6_1
                      try clear hcz6_2
                      try clear hcz6_3
                      try clear hcz6_4
                      try clear hcz6_5
                      try clear hfz21_0
                      try clear hfz21_1
                      try clear hfz21_2
                      try clear hfz21_3
                      try clear hfz21_4
                      try clear hfz21_5
                      try clear hfz28_0
                      try clear hfz28_1
                      try clear hfz28_2
                      try clear hfz28_3
                      try clear hfz28_4
                      try clear hfz28_5
                      try clear hfz6_0
                      try clear hfz6_1
                      try clear hfz6_2
                      try clear hfz6_3
                      try clear hfz6_4
                      try clear hfz6_5
                      try clear hx401_0
                      try clear hx401_1
                      try clear hx401_2
                      try clear hx409_0
                      try clear hx409_1
                      try clear hx409_2
                      try clear hx410_0
                      try clear hx410_1
                      try clear hx410_2
                      try clear p2
                      try clear p4
                      try clear p401
                      try clear p409
                      try clear p410
                      try clear p6
                      try clear q4
                      try clear q401
                      try clear q409
                      try clear q410
                      obtain ⟨kq, x401003_23, HA, HJ23, HO_8, BK399, BK400, BK408, HB⟩ := hcut
                      cases kq with
                      | zero => exact absurd HA.out (by simp [crossbarlaw16_run.j2])
                      | succ kj23 =>
                        have H := HA.out
                        clear HA
                        simp only [crossbarlaw16_run.j2] at H
                        have H' := Aside0.mk H
                        clear H
                        go_wp2
                        go_loopg [10] kj23 (fun kq v10 w' => ∃ (x10_4 : Int) (x401002_4 : Bool) (x401003_4 : Int) (x401004_4 : Int) (x401005_4 : Bool), v10 = .int .i64 x10_4 ∧ Aside0 (crossbarlaw16_run.l1 kq l0 l1 x6_1 t404 x10_4 x401000_1 x401001_1 x401002_4 x401003_4 x401004_4 x401005_4 t402 t403 = some (r1, r2, r3, r4, r5, r6)) ∧ Aside0 (kq ≤ kj23) ∧ Aside0 (Kd.R k62 62 w' w.heap.size (fun _ => True) v405 t404) ∧ Aside0 (w'.heap[gb399]? = some (.cells #[.int .i64 0, .string (⟨#[]⟩ : ByteArray), .bool false, .int .i64 0, .int .i64 0, .bool false] 58 (0, 0))) ∧ Aside0 (w'.heap[gb400]? = some (.cells #[.int .i64 x401000_1, .string x401001_1, .bool x401002_4, .int .i64 x401003_4, .int .i64 x401004_4, .bool x401005_4] 58 (0, 0))) ∧ Aside0 (w'.heap[gb408]? = some (.cells #[.int .i64 t402, .string t403] 45 (0, 0))) ∧ Aside0 (Below w.heap.size w w'))
                        case atStart => exact ⟨(0), (x401002_10), (x401003_23), (x401004_1), (x401005_1), (by first | rfl | (simp; done) | (simp [*]; done)), H', ⟨Nat.le_refl _⟩, ⟨by (with_reducible repeat (first | apply Kd.R_alloc | apply Kd.R_drewN | apply Kd.R_drew)); exact HO_8.out⟩, ⟨by (with_reducible repeat (first | refine blk_drewN ?_ _ | refine blk_drew ?_ | refine blk_alloc ?_ _)); exact BK399.out⟩, ⟨by (with_reducible repeat (first | refine blk_drewN ?_ _ | refine blk_drew ?_ | refine blk_alloc ?_ _)); exact BK400.out⟩, ⟨by (with_reducible repeat (first | refine blk_drewN ?_ _ | refine blk_drew ?_ | refine blk_alloc ?_ _)); exact BK408.out⟩, ⟨by repeat (first | (with_reducible first | exact HB.out | apply below_alloc | apply pw_below_drewN | apply below_drew1 | refine below_set ?_ GE399.out | refine below_set ?_ GE400.out | refine below_set ?_ GE408.out) | exact HB.out)⟩⟩
                        case round =>
                          clear H'
                          try clear c1
                          try clear c2
                          try clear p2
                          try clear c3
                          try clear p4
                          try clear q4
                          try clear hx4
                          try clear c5
                          try clear p6
                          try clear c7
                          try clear c7b0
                          try clear c8
                          try clear c8b0
                          try clear c10
                          try clear c10b0
                          try clear c10b1
                          try clear c18
                          try clear c18b0
                          try clear c18b1
                          try clear c19
                          try clear c20
                          try clear c22
                          try clear c22b0
                          try clear c23
                          try clear c23b0
                          try clear c24
                          try clear c25
                          try clear c25b0
                          try clear c25b1
                          try clear c26
                          try clear c27
                          try clear hcz21_0
                          try clear hcz21_1
                          try clear hcz21_2
                          try clear hcz21_3
                          try clear hcz21_4
                          try clear hcz21_5
                          try clear hcz28_0
                          try clear hcz28_1
                          try clear hcz28_2
                          try clear hcz28_3
                          try clear hcz28_4
                          try clear hcz28_5
                          try clear hcz6_0
                          try clear hcz6_1
                          try clear hcz6_2
                          try clear hcz6_3
                          try clear hcz6_4
                          try clear hcz6_5
                          try clear hfz21_0
                          try clear hfz21_1
                          try clear hfz21_2
                          try clear hfz21_3
                          try clear hfz21_4
                          try clear hfz21_5
                          try clear hfz28_0
                          try clear hfz28_1
                          try clear hfz28_2
                          try clear hfz28_3
                          try clear hfz28_4
                          try clear hfz28_5
                          try clear hfz6_0
                          try clear hfz6_1
                          try clear hfz6_2
                          try clear hfz6_3
                          try clear hfz6_4
                          try clear hfz6_5
                          try clear hx401_0
                          try clear hx401_1
                          try clear hx401_2
                          try clear hx409_0
                          try clear hx409_1
                          try clear hx409_2
                          try clear hx410_0
                          try clear hx410_1
                          try clear hx410_2
                          try clear p2
                          try clear p4
                          try clear p401
                          try clear p409
                          try clear p410
                          try clear p6
                          try clear q4
                          try clear q401
                          try clear q409
                          try clear q410
                          obtain ⟨x10_4, x401002_4, x401003_4, x401004_4, x401005_4, rfl, HA, HK4, HO_8, BK399, BK400, BK408, HB⟩ := hrel
                          cases gk with
                          | zero => exact absurd HA.out (by simp [crossbarlaw16_run.l1])
                          | succ k4 =>
                            have H := HA.out
                            clear HA
                            simp only [crossbarlaw16_run.l1] at H
                            by_cases c29 : x10_4 < (t404.length : Int)
                            · rw [if_pos c29] at H
                              have c29b0 : decide (x10_4 < (t404.length : Int)) = true := decide_eq_true c29
                              clear c29
                              by_cases c30 : 0 ≤ x10_4
                              · rw [if_pos c30] at H
                                have c30b0 : decide (0 ≤ x10_4) = true := decide_eq_true c30
                                clear c30
                                by_cases c31 : ((rd_T62 t404 x10_4).f0) = 9
                                · rw [if_pos c31] at H
                                  have c31b0 : (((rd_T62 t404 x10_4).f0) == 9) = true := beq_iff_eq.mpr c31
                                  have c31b1 : (((rd_T62 t404 x10_4).f0) != 9) = false := bne_eq_false_iff_eq.mpr c31
                                  clear c31
                                  have H' := Aside0.mk H
                                  clear H
                                  obtain ⟨Ao32, co32, eo32⟩ := Kd.R_slice HO_8.out
                                  subst eo32
                                  have p411 : 0 ≤ (x10_4 : Int) := of_decide_eq_true (by first | (with_reducible assumption) | assumption)
                                  have q411 : x10_4 < (t404.length : Int) := of_decide_eq_true (by first | (with_reducible assumption) | assumption)
                                  obtain ⟨ad411, e411, hx411_0, hx411_1, hx411_2, hx411_3⟩ := at_T62 (Kd.R_reads' HO_8.out).2.2 x10_4 p411 q411
                                  cases e411
                                  replace p411 := eq_true p411
                                  replace q411 := eq_true q411
                                  have hnb33 := NB400_399.out
                                  have hnc33 := NB399_400.out
                                  have hnb34 := NB400_408.out
                                  have hnc34 := NB408_400.out
                                  have hcz35_0 : wr.cell? ⟨gb400, 0, none⟩ = some (.int .i64 x401000_1) := (blk_cell BK400.out 0).trans rfl
                                  have hcz35_1 : wr.cell? ⟨gb400, 1, none⟩ = some (.string x401001_1) := (blk_cell BK400.out 1).trans rfl
                                  have hcz35_2 : wr.cell? ⟨gb400, 2, none⟩ = some (.bool x401002_4) := (blk_cell BK400.out 2).trans rfl
                                  have hcz35_3 : wr.cell? ⟨gb400, 3, none⟩ = some (.int .i64 x401003_4) := (blk_cell BK400.out 3).trans rfl
                                  have hcz35_4 : wr.cell? ⟨gb400, 4, none⟩ = some (.int .i64 x401004_4) := (blk_cell BK400.out 4).trans rfl
                                  have hcz35_5 : wr.cell? ⟨gb400, 5, none⟩ = some (.bool x401005_4) := (blk_cell BK400.out 5).trans rfl
                                  have hfz35_0 := blk_frozen BK400.out 0
                                  have hfz35_1 := blk_frozen BK400.out 1
                                  have hfz35_2 := blk_frozen BK400.out 2
                                  have hfz35_3 := blk_frozen BK400.out 3
                                  have hfz35_4 := blk_frozen BK400.out 4
                                  have hfz35_5 := blk_frozen BK400.out 5
                                  go_wp2
                                  go_roundg k4
                                  case measure => have := HK1.out; have := HJ10.out; have := HJ23.out; have := HK4.out; omega
                                  case rel => exact ⟨(wrap64 (x10_4 + 1)), (true), (x401003_4), (x401004_4), (x401005_4), (by first | rfl | (simp; done) | (simp [*]; done)), H', ⟨by have := HK1.out; have := HJ10.out; have := HJ23.out; have := HK4.out; omega⟩, ⟨by (with_reducible repeat (first | apply Kd.R_alloc | apply Kd.R_drewN | apply Kd.R_drew)); exact Kd.R_mono (Kd.R_far (p := ⟨gb400, 2, none⟩) (Kd.R_types HO_8.out BK400.out (by decide)) (fun _ hk => hk.2) (.bool true)) (fun _ hk => trivial)⟩, ⟨by (with_reducible repeat (first | refine blk_drewN ?_ _ | refine blk_drew ?_ | refine blk_alloc ?_ _)); refine blk_far ?_ NB399_400.out _; (with_reducible repeat (first | refine blk_drewN ?_ _ | refine blk_drew ?_ | refine blk_alloc ?_ _)); exact BK399.out⟩, ⟨by (with_reducible repeat (first | refine blk_drewN ?_ _ | refine blk_drew ?_ | refine blk_alloc ?_ _)); refine blk_put (cs := #[.int .i64 x401000_1, .string x401001_1, .bool x401002_4, .int .i64 x401003_4, .int .i64 x401004_4, .bool x401005_4]) ?_ 2 _ rfl; (with_reducible repeat (first | refine blk_drewN ?_ _ | refine blk_drew ?_ | refine blk_alloc ?_ _)); exact BK400.out⟩, ⟨by (with_reducible repeat (first | refine blk_drewN ?_ _ | refine blk_drew ?_ | refine blk_alloc ?_ _)); refine blk_far ?_ NB408_400.out _; (with_reducible repeat (first | refine blk_drewN ?_ _ | refine blk_drew ?_ | refine blk_alloc ?_ _)); exact BK408.out⟩, ⟨by repeat (first | (with_reducible first | exact HB.out | apply below_alloc | apply pw_below_drewN | apply below_drew1 | refine below_set ?_ GE399.out | refine below_set ?_ GE400.out | refine below_set ?_ GE408.out) | exact HB.out)⟩⟩
                                · rw [if_neg c31] at H
                                  have c31b0 : (((rd_T62 t404 x10_4).f0) == 9) = false := beq_eq_false_iff_ne.mpr c31
                                  have c31b1 : (((rd_T62 t404 x10_4).f0) != 9) = true := bne_iff_ne.mpr c31
                                  by_cases c36 : ((rd_T62 t404 x10_4).f0) = 10
                                  · rw [if_pos c36] at H
                                    have c36b0 : (((rd_T62 t404 x10_4).f0) == 10) = true := beq_iff_eq.mpr c36
                                    have c36b1 : (((rd_T62 t404 x10_4).f0) != 10) = false := bne_eq_false_iff_eq.mpr c36
                                    clear c36
                                    by_cases c37 : x401005_4 = true
                                    · subst c37
                                      have H1 : (crossbarlaw16_run.l1 k4 l0 l1 x6_1 t404 (wrap64 (x10_4 + 1)) x401000_1 x401001_1 false x401003_4 x401004_4 x401002_4 t402 t403) = some (r1, r2, r3, r4, r5, r6) := by rw [if_pos rfl] at H; exact H
                                      clear H
                                      have H := H1
                                      clear H1
                                      have H' := Aside0.mk H
                                      clear H
                                      obtain ⟨Ao38, co38, eo38⟩ := Kd.R_slice HO_8.out
                                      subst eo38
                                      have p411 : 0 ≤ (x10_4 : Int) := of_decide_eq_true (by first | (with_reducible assumption) | assumption)
                                      have q411 : x10_4 < (t404.length : Int) := of_decide_eq_true (by first | (with_reducible assumption) | assumption)
                                      obtain ⟨ad411, e411, hx411_0, hx411_1, hx411_2, hx411_3⟩ := at_T62 (Kd.R_reads' HO_8.out).2.2 x10_4 p411 q411
                                      cases e411
                                      replace p411 := eq_true p411
                                      replace q411 := eq_true q411
                                      have hnb39 := NB400_399.out
                                      have hnc39 := NB399_400.out
                                      have hnb40 := NB400_408.out
                                      have hnc40 := NB408_400.out
                                      have hcz41_0 : wr.cell? ⟨gb400, 0, none⟩ = some (.int .i64 x401000_1) := (blk_cell BK400.out 0).trans rfl
                                      have hcz41_1 : wr.cell? ⟨gb400, 1, none⟩ = some (.string x401001_1) := (blk_cell BK400.out 1).trans rfl
                                      have hcz41_2 : wr.cell? ⟨gb400, 2, none⟩ = some (.bool x401002_4) := (blk_cell BK400.out 2).trans rfl
                                      have hcz41_3 : wr.cell? ⟨gb400, 3, none⟩ = some (.int .i64 x401003_4) := (blk_cell BK400.out 3).trans rfl
                                      have hcz41_4 : wr.cell? ⟨gb400, 4, none⟩ = some (.int .i64 x401004_4) := (blk_cell BK400.out 4).trans rfl
                                      have hcz41_5 : wr.cell? ⟨gb400, 5, none⟩ = some (.bool true) := (blk_cell BK400.out 5).trans rfl
                                      have hfz41_0 := blk_frozen BK400.out 0
                                      have hfz41_1 := blk_frozen BK400.out 1
                                      have hfz41_2 := blk_frozen BK400.out 2
                                      have hfz41_3 := blk_frozen BK400.out 3
                                      have hfz41_4 := blk_frozen BK400.out 4
                                      have hfz41_5 := blk_frozen BK400.out 5
                                      go_wp2
                                      go_roundg k4
                                      case measure => have := HK1.out; have := HJ10.out; have := HJ23.out; have := HK4.out; omega
                                      case rel => exact ⟨(wrap64 (x10_4 + 1)), (false), (x401003_4), (x401004_4), (x401002_4), (by first | rfl | (simp; done) | (simp [*]; done)), H', ⟨by have := HK1.out; have := HJ10.out; have := HJ23.out; have := HK4.out; omega⟩, ⟨by (with_reducible repeat (first | apply Kd.R_alloc | apply Kd.R_drewN | apply Kd.R_drew)); exact Kd.R_mono (Kd.R_far (p := ⟨gb400, 2, none⟩) (Kd.R_far (p := ⟨gb400, 5, none⟩) (Kd.R_types HO_8.out BK400.out (by decide)) (fun _ hk => hk.2) (.bool x401002_4)) (fun _ hk => hk.2) (.bool false)) (fun _ hk => trivial)⟩, ⟨by (with_reducible repeat (first | refine blk_drewN ?_ _ | refine blk_drew ?_ | refine blk_alloc ?_ _)); refine blk_far ?_ NB399_400.out _; (with_reducible repeat (first | refine blk_drewN ?_ _ | refine blk_drew ?_ | refine blk_alloc ?_ _)); refine blk_far ?_ NB399_400.out _; (with_reducible repeat (first | refine blk_drewN ?_ _ | refine blk_drew ?_ | refine blk_alloc ?_ _)); exact BK399.out⟩, ⟨by (with_reducible repeat (first | refine blk_drewN ?_ _ | refine blk_drew ?_ | refine blk_alloc ?_ _)); refine blk_put (cs := #[.int .i64 x401000_1, .string x401001_1, .bool x401002_4, .int .i64 x401003_4, .int .i64 x401004_4, .bool x401002_4]) ?_ 2 _ rfl; (with_reducible repeat (first | refine blk_drewN ?_ _ | refine blk_drew ?_ | refine blk_alloc ?_ _)); refine blk_put (cs := #[.int .i64 x401000_1, .string x401001_1, .bool x401002_4, .int .i64 x401003_4, .int .i64 x401004_4, .bool true]) ?_ 5 _ (by first | rfl | (rw [isE_nil]; rfl)); (with_reducible repeat (first | refine blk_drewN ?_ _ | refine blk_drew ?_ | refine blk_alloc ?_ _)); exact BK400.out⟩, ⟨by (with_reducible repeat (first | refine blk_drewN ?_ _ | refine blk_drew ?_ | refine blk_alloc ?_ _)); refine blk_far ?_ NB408_400.out _; (with_reducible repeat (first | refine blk_drewN ?_ _ | refine blk_drew ?_ | refine blk_alloc ?_ _)); refine blk_far ?_ NB408_400.out _; (with_reducible repeat (first | refine blk_drewN ?_ _ | refine blk_drew ?_ | refine blk_alloc ?_ _)); exact BK408.out⟩, ⟨by repeat (first | (with_reducible first | exact HB.out | apply below_alloc | apply pw_below_drewN | apply below_drew1 | refine below_set ?_ GE399.out | refine below_set ?_ GE400.out | refine below_set ?_ GE408.out) | exact HB.out)⟩⟩
                                    · replace c37 := Bool.eq_false_iff.mpr c37
                                      subst c37
                                      have H1 : (crossbarlaw16_run.l1 k4 l0 l1 x6_1 t404 (wrap64 (x10_4 + 1)) x401000_1 x401001_1 false x401003_4 x401004_4 false t402 t403) = some (r1, r2, r3, r4, r5, r6) := by rw [if_neg (show ¬ (false = true) by decide)] at H; exact H
                                      clear H
                                      have H := H1
                                      clear H1
                                      have H' := Aside0.mk H
                                      clear H
                                      obtain ⟨Ao42, co42, eo42⟩ := Kd.R_slice HO_8.out
                                      subst eo42
                                      have p411 : 0 ≤ (x10_4 : Int) := of_decide_eq_true (by first | (with_reducible assumption) | assumption)
                                      have q411 : x10_4 < (t404.length : Int) := of_decide_eq_true (by first | (with_reducible assumption) | assumption)
                                      obtain ⟨ad411, e411, hx411_0, hx411_1, hx411_2, hx411_3⟩ := at_T62 (Kd.R_reads' HO_8.out).2.2 x10_4 p411 q411
                                      cases e411
                                      replace p411 := eq_true p411
                                      replace q411 := eq_true q411
                                      have hnb43 := NB400_399.out
                                      have hnc43 := NB399_400.out
                                      have hnb44 := NB400_408.out
                                      have hnc44 := NB408_400.out
                                      have hcz45_0 : wr.cell? ⟨gb400, 0, none⟩ = some (.int .i64 x401000_1) := (blk_cell BK400.out 0).trans rfl
                                      have hcz45_1 : wr.cell? ⟨gb400, 1, none⟩ = some (.string x401001_1) := (blk_cell BK400.out 1).trans rfl
                                      have hcz45_2 : wr.cell? ⟨gb400, 2, none⟩ = some (.bool x401002_4) := (blk_cell BK400.out 2).trans rfl
                                      have hcz45_3 : wr.cell? ⟨gb400, 3, none⟩ = some (.int .i64 x401003_4) := (blk_cell BK400.out 3).trans rfl
                                      have hcz45_4 : wr.cell? ⟨gb400, 4, none⟩ = some (.int .i64 x401004_4) := (blk_cell BK400.out 4).trans rfl
                                      have hcz45_5 : wr.cell? ⟨gb400, 5, none⟩ = some (.bool false) := (blk_cell BK400.out 5).trans rfl
                                      have hfz45_0 := blk_frozen BK400.out 0
                                      have hfz45_1 := blk_frozen BK400.out 1
                                      have hfz45_2 := blk_frozen BK400.out 2
                                      have hfz45_3 := blk_frozen BK400.out 3
                                      have hfz45_4 := blk_frozen BK400.out 4
                                      have hfz45_5 := blk_frozen BK400.out 5
                                      go_wp2
                                      go_roundg k4
                                      case measure => have := HK1.out; have := HJ10.out; have := HJ23.out; have := HK4.out; omega
                                      case rel => exact ⟨(wrap64 (x10_4 + 1)), (false), (x401003_4), (x401004_4), (false), (by first | rfl | (simp; done) | (simp [*]; done)), H', ⟨by have := HK1.out; have := HJ10.out; have := HJ23.out; have := HK4.out; omega⟩, ⟨by (with_reducible repeat (first | apply Kd.R_alloc | apply Kd.R_drewN | apply Kd.R_drew)); exact Kd.R_mono (Kd.R_far (p := ⟨gb400, 2, none⟩) (Kd.R_far (p := ⟨gb400, 5, none⟩) (Kd.R_types HO_8.out BK400.out (by decide)) (fun _ hk => hk.2) (.bool false)) (fun _ hk => hk.2) (.bool false)) (fun _ hk => trivial)⟩, ⟨by (with_reducible repeat (first | refine blk_drewN ?_ _ | refine blk_drew ?_ | refine blk_alloc ?_ _)); refine blk_far ?_ NB399_400.out _; (with_reducible repeat (first | refine blk_drewN ?_ _ | refine blk_drew ?_ | refine blk_alloc ?_ _)); refine blk_far ?_ NB399_400.out _; (with_reducible repeat (first | refine blk_drewN ?_ _ | refine blk_drew ?_ | refine blk_alloc ?_ _)); exact BK399.out⟩, ⟨by (with_reducible repeat (first | refine blk_drewN ?_ _ | refine blk_drew ?_ | refine blk_alloc ?_ _)); refine blk_put (cs := #[.int .i64 x401000_1, .string x401001_1, .bool x401002_4, .int .i64 x401003_4, .int .i64 x401004_4, .bool false]) ?_ 2 _ rfl; (with_reducible repeat (first | refine blk_drewN ?_ _ | refine blk_drew ?_ | refine blk_alloc ?_ _)); refine blk_put (cs := #[.int .i64 x401000_1, .string x401001_1, .bool x401002_4, .int .i64 x401003_4, .int .i64 x401004_4, .bool false]) ?_ 5 _ (by first | rfl | (rw [isE_nil]; rfl)); (with_reducible repeat (first | refine blk_drewN ?_ _ | refine blk_drew ?_ | refine blk_alloc ?_ _)); exact BK400.out⟩, ⟨by (with_reducible repeat (first | refine blk_drewN ?_ _ | refine blk_drew ?_ | refine blk_alloc ?_ _)); refine blk_far ?_ NB408_400.out _; (with_reducible repeat (first | refine blk_drewN ?_ _ | refine blk_drew ?_ | refine blk_alloc ?_ _)); refine blk_far ?_ NB408_400.out _; (with_reducible repeat (first | refine blk_drewN ?_ _ | refine blk_drew ?_ | refine blk_alloc ?_ _)); exact BK408.out⟩, ⟨by repeat (first | (with_reducible first | exact HB.out | apply below_alloc | apply pw_below_drewN | apply below_drew1 | refine below_set ?_ GE399.out | refine below_set ?_ GE400.out | refine below_set ?_ GE408.out) | exact HB.out)⟩⟩
                                  · rw [if_neg c36] at H
                                    have c36b0 : (((rd_T62 t404 x10_4).f0) == 10) = false := beq_eq_false_iff_ne.mpr c36
                                    have c36b1 : (((rd_T62 t404 x10_4).f0) != 10) = true := bne_iff_ne.mpr c36
                                    by_cases c46 : ((rd_T62 t404 x10_4).f0) = 5
                                    · rw [if_pos c46] at H
                                      have c46b0 : (((rd_T62 t404 x10_4).f0) == 5) = true := beq_iff_eq.mpr c46
                                      have c46b1 : (((rd_T62 t404 x10_4).f0) != 5) = false := bne_eq_false_iff_eq.mpr c46
                                      clear c46
                                      have H' := Aside0.mk H
                                      clear H
                                      obtain ⟨Ao47, co47, eo47⟩ := Kd.R_slice HO_8.out
                                      subst eo47
                                      have p411 : 0 ≤ (x10_4 : Int) := of_decide_eq_true (by first | (with_reducible assumption) | assumption)
                                      have q411 : x10_4 < (t404.length : Int) := of_decide_eq_true (by first | (with_reducible assumption) | assumption)
                                      obtain ⟨ad411, e411, hx411_0, hx411_1, hx411_2, hx411_3⟩ := at_T62 (Kd.R_reads' HO_8.out).2.2 x10_4 p411 q411
                                      cases e411
                                      replace p411 := eq_true p411
                                      replace q411 := eq_true q411
                                      have hnb48 := NB400_399.out
                                      have hnc48 := NB399_400.out
                                      have hnb49 := NB400_408.out
                                      have hnc49 := NB408_400.out
                                      have hcz50_0 : wr.cell? ⟨gb400, 0, none⟩ = some (.int .i64 x401000_1) := (blk_cell BK400.out 0).trans rfl
                                      have hcz50_1 : wr.cell? ⟨gb400, 1, none⟩ = some (.string x401001_1) := (blk_cell BK400.out 1).trans rfl
                                      have hcz50_2 : wr.cell? ⟨gb400, 2, none⟩ = some (.bool x401002_4) := (blk_cell BK400.out 2).trans rfl
                                      have hcz50_3 : wr.cell? ⟨gb400, 3, none⟩ = some (.int .i64 x401003_4) := (blk_cell BK400.out 3).trans rfl
                                      have hcz50_4 : wr.cell? ⟨gb400, 4, none⟩ = some (.int .i64 x401004_4) := (blk_cell BK400.out 4).trans rfl
                                      have hcz50_5 : wr.cell? ⟨gb400, 5, none⟩ = some (.bool x401005_4) := (blk_cell BK400.out 5).trans rfl
                                      have hfz50_0 := blk_frozen BK400.out 0
                                      have hfz50_1 := blk_frozen BK400.out 1
                                      have hfz50_2 := blk_frozen BK400.out 2
                                      have hfz50_3 := blk_frozen BK400.out 3
                                      have hfz50_4 := blk_frozen BK400.out 4
                                      have hfz50_5 := blk_frozen BK400.out 5
                                      go_wp2
                                      go_roundg k4
                                      case measure => have := HK1.out; have := HJ10.out; have := HJ23.out; have := HK4.out; omega
                                      case rel => exact ⟨(wrap64 (x10_4 + 1)), (x401002_4), (wrap64 (x401003_4 + 1)), (x401004_4), (x401005_4), (by first | rfl | (simp; done) | (simp [*]; done)), H', ⟨by have := HK1.out; have := HJ10.out; have := HJ23.out; have := HK4.out; omega⟩, ⟨by (with_reducible repeat (first | apply Kd.R_alloc | apply Kd.R_drewN | apply Kd.R_drew)); exact Kd.R_mono (Kd.R_far (p := ⟨gb400, 3, none⟩) (Kd.R_types HO_8.out BK400.out (by decide)) (fun _ hk => hk.2) (.int .i64 (wrap64 (x401003_4 + 1)))) (fun _ hk => trivial)⟩, ⟨by (with_reducible repeat (first | refine blk_drewN ?_ _ | refine blk_drew ?_ | refine blk_alloc ?_ _)); refine blk_far ?_ NB399_400.out _; (with_reducible repeat (first | refine blk_drewN ?_ _ | refine blk_drew ?_ | refine blk_alloc ?_ _)); exact BK399.out⟩, ⟨by (with_reducible repeat (first | refine blk_drewN ?_ _ | refine blk_drew ?_ | refine blk_alloc ?_ _)); refine blk_put (cs := #[.int .i64 x401000_1, .string x401001_1, .bool x401002_4, .int .i64 x401003_4, .int .i64 x401004_4, .bool x401005_4]) ?_ 3 _ rfl; (with_reducible repeat (first | refine blk_drewN ?_ _ | refine blk_drew ?_ | refine blk_alloc ?_ _)); exact BK400.out⟩, ⟨by (with_reducible repeat (first | refine blk_drewN ?_ _ | refine blk_drew ?_ | refine blk_alloc ?_ _)); refine blk_far ?_ NB408_400.out _; (with_reducible repeat (first | refine blk_drewN ?_ _ | refine blk_drew ?_ | refine blk_alloc ?_ _)); exact BK408.out⟩, ⟨by repeat (first | (with_reducible first | exact HB.out | apply below_alloc | apply pw_below_drewN | apply below_drew1 | refine below_set ?_ GE399.out | refine below_set ?_ GE400.out | refine below_set ?_ GE408.out) | exact HB.out)⟩⟩
                                    · rw [if_neg c46] at H
                                      have c46b0 : (((rd_T62 t404 x10_4).f0) == 5) = false := beq_eq_false_iff_ne.mpr c46
                                      have c46b1 : (((rd_T62 t404 x10_4).f0) != 5) = true := bne_iff_ne.mpr c46
                                      by_cases c51 : ((rd_T62 t404 x10_4).f0) = 7
                                      · rw [if_pos c51] at H
                                        have c51b0 : (((rd_T62 t404 x10_4).f0) == 7) = true := beq_iff_eq.mpr c51
                                        have c51b1 : (((rd_T62 t404 x10_4).f0) != 7) = false := bne_eq_false_iff_eq.mpr c51
                                        clear c51
                                        have H' := Aside0.mk H
                                        clear H
                                        obtain ⟨Ao52, co52, eo52⟩ := Kd.R_slice HO_8.out
                                        subst eo52
                                        have p411 : 0 ≤ (x10_4 : Int) := of_decide_eq_true (by first | (with_reducible assumption) | assumption)
                                        have q411 : x10_4 < (t404.length : Int) := of_decide_eq_true (by first | (with_reducible assumption) | assumption)
                                        obtain ⟨ad411, e411, hx411_0, hx411_1, hx411_2, hx411_3⟩ := at_T62 (Kd.R_reads' HO_8.out).2.2 x10_4 p411 q411
                                        cases e411
                                        replace p411 := eq_true p411
                                        replace q411 := eq_true q411
                                        have hnb53 := NB400_399.out
                                        have hnc53 := NB399_400.out
                                        have hnb54 := NB400_408.out
                                        have hnc54 := NB408_400.out
                                        have hcz55_0 : wr.cell? ⟨gb400, 0, none⟩ = some (.int .i64 x401000_1) := (blk_cell BK400.out 0).trans rfl
                                        have hcz55_1 : wr.cell? ⟨gb400, 1, none⟩ = some (.string x401001_1) := (blk_cell BK400.out 1).trans rfl
                                        have hcz55_2 : wr.cell? ⟨gb400, 2, none⟩ = some (.bool x401002_4) := (blk_cell BK400.out 2).trans rfl
                                        have hcz55_3 : wr.cell? ⟨gb400, 3, none⟩ = some (.int .i64 x401003_4) := (blk_cell BK400.out 3).trans rfl
                                        have hcz55_4 : wr.cell? ⟨gb400, 4, none⟩ = some (.int .i64 x401004_4) := (blk_cell BK400.out 4).trans rfl
                                        have hcz55_5 : wr.cell? ⟨gb400, 5, none⟩ = some (.bool x401005_4) := (blk_cell BK400.out 5).trans rfl
                                        have hfz55_0 := blk_frozen BK400.out 0
                                        have hfz55_1 := blk_frozen BK400.out 1
                                        have hfz55_2 := blk_frozen BK400.out 2
                                        have hfz55_3 := blk_frozen BK400.out 3
                                        have hfz55_4 := blk_frozen BK400.out 4
                                        have hfz55_5 := blk_frozen BK400.out 5
                                        go_wp2
                                        go_roundg k4
                                        case measure => have := HK1.out; have := HJ10.out; have := HJ23.out; have := HK4.out; omega
                                        case rel => exact ⟨(wrap64 (x10_4 + 1)), (x401002_4), (wrap64 (x401003_4 - 1)), (x401004_4), (x401005_4), (by first | rfl | (simp; done) | (simp [*]; done)), H', ⟨by have := HK1.out; have := HJ10.out; have := HJ23.out; have := HK4.out; omega⟩, ⟨by (with_reducible repeat (first | apply Kd.R_alloc | apply Kd.R_drewN | apply Kd.R_drew)); exact Kd.R_mono (Kd.R_far (p := ⟨gb400, 3, none⟩) (Kd.R_types HO_8.out BK400.out (by decide)) (fun _ hk => hk.2) (.int .i64 (wrap64 (x401003_4 - 1)))) (fun _ hk => trivial)⟩, ⟨by (with_reducible repeat (first | refine blk_drewN ?_ _ | refine blk_drew ?_ | refine blk_alloc ?_ _)); refine blk_far ?_ NB399_400.out _; (with_reducible repeat (first | refine blk_drewN ?_ _ | refine blk_drew ?_ | refine blk_alloc ?_ _)); exact BK399.out⟩, ⟨by (with_reducible repeat (first | refine blk_drewN ?_ _ | refine blk_drew ?_ | refine blk_alloc ?_ _)); refine blk_put (cs := #[.int .i64 x401000_1, .string x401001_1, .bool x401002_4, .int .i64 x401003_4, .int .i64 x401004_4, .bool x401005_4]) ?_ 3 _ rfl; (with_reducible repeat (first | refine blk_drewN ?_ _ | refine blk_drew ?_ | refine blk_alloc ?_ _)); exact BK400.out⟩, ⟨by (with_reducible repeat (first | refine blk_drewN ?_ _ | refine blk_drew ?_ | refine blk_alloc ?_ _)); refine blk_far ?_ NB408_400.out _; (with_reducible repeat (first | refine blk_drewN ?_ _ | refine blk_drew ?_ | refine blk_alloc ?_ _)); exact BK408.out⟩, ⟨by repeat (first | (with_reducible first | exact HB.out | apply below_alloc | apply pw_below_drewN | apply below_drew1 | refine below_set ?_ GE399.out | refine below_set ?_ GE400.out | refine below_set ?_ GE408.out) | exact HB.out)⟩⟩
                                      · rw [if_neg c51] at H
                                        have c51b0 : (((rd_T62 t404 x10_4).f0) == 7) = false := beq_eq_false_iff_ne.mpr c51
                                        have c51b1 : (((rd_T62 t404 x10_4).f0) != 7) = true := bne_iff_ne.mpr c51
                                        by_cases c56 : ((rd_T62 t404 x10_4).f0) = 1
                                        · rw [if_pos c56] at H
                                          have c56b0 : (((rd_T62 t404 x10_4).f0) == 1) = true := beq_iff_eq.mpr c56
                                          have c56b1 : (((rd_T62 t404 x10_4).f0) != 1) = false := bne_eq_false_iff_eq.mpr c56
                                          clear c56
                                          have H' := Aside0.mk H
                                          clear H
                                          obtain ⟨Ao57, co57, eo57⟩ := Kd.R_slice HO_8.out
                                          subst eo57
                                          have p411 : 0 ≤ (x10_4 : Int) := of_decide_eq_true (by first | (with_reducible assumption) | assumption)
                                          have q411 : x10_4 < (t404.length : Int) := of_decide_eq_true (by first | (with_reducible assumption) | assumption)
                                          obtain ⟨ad411, e411, hx411_0, hx411_1, hx411_2, hx411_3⟩ := at_T62 (Kd.R_reads' HO_8.out).2.2 x10_4 p411 q411
                                          cases e411
                                          replace p411 := eq_true p411
                                          replace q411 := eq_true q411
                                          have p412 : 0 ≤ (x10_4 : Int) := of_decide_eq_true (by first | (with_reducible assumption) | assumption)
                                          have q412 : x10_4 < (t404.length : Int) := of_decide_eq_true (by first | (with_reducible assumption) | assumption)
                                          obtain ⟨ad412, e412, hx412_0, hx412_1, hx412_2, hx412_3⟩ := at_T62 (Kd.R_reads' HO_8.out).2.2 x10_4 p412 q412
                                          obtain rfl : ad411 = ad412 := (by injection e412)
                                          replace p412 := eq_true p412
                                          replace q412 := eq_true q412
                                          have hnb58 := NB400_399.out
                                          have hnc58 := NB399_400.out
                                          have hnb59 := NB400_408.out
                                          have hnc59 := NB408_400.out
                                          have hcz60_0 : wr.cell? ⟨gb400, 0, none⟩ = some (.int .i64 x401000_1) := (blk_cell BK400.out 0).trans rfl
                                          have hcz60_1 : wr.cell? ⟨gb400, 1, none⟩ = some (.string x401001_1) := (blk_cell BK400.out 1).trans rfl
                                          have hcz60_2 : wr.cell? ⟨gb400, 2, none⟩ = some (.bool x401002_4) := (blk_cell BK400.out 2).trans rfl
                                          have hcz60_3 : wr.cell? ⟨gb400, 3, none⟩ = some (.int .i64 x401003_4) := (blk_cell BK400.out 3).trans rfl
                                          have hcz60_4 : wr.cell? ⟨gb400, 4, none⟩ = some (.int .i64 x401004_4) := (blk_cell BK400.out 4).trans rfl
                                          have hcz60_5 : wr.cell? ⟨gb400, 5, none⟩ = some (.bool x401005_4) := (blk_cell BK400.out 5).trans rfl
                                          have hfz60_0 := blk_frozen BK400.out 0
                                          have hfz60_1 := blk_frozen BK400.out 1
                                          have hfz60_2 := blk_frozen BK400.out 2
                                          have hfz60_3 := blk_frozen BK400.out 3
                                          have hfz60_4 := blk_frozen BK400.out 4
                                          have hfz60_5 := blk_frozen BK400.out 5
                                          go_wp2
                                          go_roundg k4
                                          case measure => have := HK1.out; have := HJ10.out; have := HJ23.out; have := HK4.out; omega
                                          case rel => exact ⟨(wrap64 (x10_4 + 1)), (x401002_4), (x401003_4), ((rd_T62 t404 x10_4).f0), (x401005_4), (by first | rfl | (simp; done) | (simp [*]; done)), H', ⟨by have := HK1.out; have := HJ10.out; have := HJ23.out; have := HK4.out; omega⟩, ⟨by (with_reducible repeat (first | apply Kd.R_alloc | apply Kd.R_drewN | apply Kd.R_drew)); exact Kd.R_mono (Kd.R_far (p := ⟨gb400, 4, none⟩) (Kd.R_types HO_8.out BK400.out (by decide)) (fun _ hk => hk.2) (.int .i64 ((rd_T62 t404 x10_4).f0))) (fun _ hk => trivial)⟩, ⟨by (with_reducible repeat (first | refine blk_drewN ?_ _ | refine blk_drew ?_ | refine blk_alloc ?_ _)); refine blk_far ?_ NB399_400.out _; (with_reducible repeat (first | refine blk_drewN ?_ _ | refine blk_drew ?_ | refine blk_alloc ?_ _)); exact BK399.out⟩, ⟨by (with_reducible repeat (first | refine blk_drewN ?_ _ | refine blk_drew ?_ | refine blk_alloc ?_ _)); refine blk_put (cs := #[.int .i64 x401000_1, .string x401001_1, .bool x401002_4, .int .i64 x401003_4, .int .i64 x401004_4, .bool x401005_4]) ?_ 4 _ rfl; (with_reducible repeat (first | refine blk_drewN ?_ _ | refine blk_drew ?_ | refine blk_alloc ?_ _)); exact BK400.out⟩, ⟨by (with_reducible repeat (first | refine blk_drewN ?_ _ | refine blk_drew ?_ | refine blk_alloc ?_ _)); refine blk_far ?_ NB408_400.out _; (with_reducible repeat (first | refine blk_drewN ?_ _ | refine blk_drew ?_ | refine blk_alloc ?_ _)); exact BK408.out⟩, ⟨by repeat (first | (with_reducible first | exact HB.out | apply below_alloc | apply pw_below_drewN | apply below_drew1 | refine below_set ?_ GE399.out | refine below_set ?_ GE400.out | refine below_set ?_ GE408.out) | exact HB.out)⟩⟩
                                        · rw [if_neg c56] at H
                                          have c56b0 : (((rd_T62 t404 x10_4).f0) == 1) = false := beq_eq_false_iff_ne.mpr c56
                                          have c56b1 : (((rd_T62 t404 x10_4).f0) != 1) = true := bne_iff_ne.mpr c56
                                          by_cases c61 : ((rd_T62 t404 x10_4).f0) = 2
                                          · rw [if_pos c61] at H
                                            have c61b0 : (((rd_T62 t404 x10_4).f0) == 2) = true := beq_iff_eq.mpr c61
                                            have c61b1 : (((rd_T62 t404 x10_4).f0) != 2) = false := bne_eq_false_iff_eq.mpr c61
                                            clear c61
                                            have H' := Aside0.mk H
                                            clear H
                                            obtain ⟨Ao62, co62, eo62⟩ := Kd.R_slice HO_8.out
                                            subst eo62
                                            have p411 : 0 ≤ (x10_4 : Int) := of_decide_eq_true (by first | (with_reducible assumption) | assumption)
                                            have q411 : x10_4 < (t404.length : Int) := of_decide_eq_true (by first | (with_reducible assumption) | assumption)
                                            obtain ⟨ad411, e411, hx411_0, hx411_1, hx411_2, hx411_3⟩ := at_T62 (Kd.R_reads' HO_8.out).2.2 x10_4 p411 q411
                                            cases e411
                                            replace p411 := eq_true p411
                                            replace q411 := eq_true q411
                                            have p413 : 0 ≤ (x10_4 : Int) := of_decide_eq_true (by first | (with_reducible assumption) | assumption)
                                            have q413 : x10_4 < (t404.length : Int) := of_decide_eq_true (by first | (with_reducible assumption) | assumption)
                                            obtain ⟨ad413, e413, hx413_0, hx413_1, hx413_2, hx413_3⟩ := at_T62 (Kd.R_reads' HO_8.out).2.2 x10_4 p413 q413
                                            obtain rfl : ad411 = ad413 := (by injection e413)
                                            replace p413 := eq_true p413
                                            replace q413 := eq_true q413
                                            have hnb63 := NB400_399.out
                                            have hnc63 := NB399_400.out
                                            have hnb64 := NB400_408.out
                                            have hnc64 := NB408_400.out
                                            have hcz65_0 : wr.cell? ⟨gb400, 0, none⟩ = some (.int .i64 x401000_1) := (blk_cell BK400.out 0).trans rfl
                                            have hcz65_1 : wr.cell? ⟨gb400, 1, none⟩ = some (.string x401001_1) := (blk_cell BK400.out 1).trans rfl
                                            have hcz65_2 : wr.cell? ⟨gb400, 2, none⟩ = some (.bool x401002_4) := (blk_cell BK400.out 2).trans rfl
                                            have hcz65_3 : wr.cell? ⟨gb400, 3, none⟩ = some (.int .i64 x401003_4) := (blk_cell BK400.out 3).trans rfl
                                            have hcz65_4 : wr.cell? ⟨gb400, 4, none⟩ = some (.int .i64 x401004_4) := (blk_cell BK400.out 4).trans rfl
                                            have hcz65_5 : wr.cell? ⟨gb400, 5, none⟩ = some (.bool x401005_4) := (blk_cell BK400.out 5).trans rfl
                                            have hfz65_0 := blk_frozen BK400.out 0
                                            have hfz65_1 := blk_frozen BK400.out 1
                                            have hfz65_2 := blk_frozen BK400.out 2
                                            have hfz65_3 := blk_frozen BK400.out 3
                                            have hfz65_4 := blk_frozen BK400.out 4
                                            have hfz65_5 := blk_frozen BK400.out 5
                                            go_wp2
                                            go_roundg k4
                                            case measure => have := HK1.out; have := HJ10.out; have := HJ23.out; have := HK4.out; omega
                                            case rel => exact ⟨(wrap64 (x10_4 + 1)), (x401002_4), (x401003_4), ((rd_T62 t404 x10_4).f0), (x401005_4), (by first | rfl | (simp; done) | (simp [*]; done)), H', ⟨by have := HK1.out; have := HJ10.out; have := HJ23.out; have := HK4.out; omega⟩, ⟨by (with_reducible repeat (first | apply Kd.R_alloc | apply Kd.R_drewN | apply Kd.R_drew)); exact Kd.R_mono (Kd.R_far (p := ⟨gb400, 4, none⟩) (Kd.R_types HO_8.out BK400.out (by decide)) (fun _ hk => hk.2) (.int .i64 ((rd_T62 t404 x10_4).f0))) (fun _ hk => trivial)⟩, ⟨by (with_reducible repeat (first | refine blk_drewN ?_ _ | refine blk_drew ?_ | refine blk_alloc ?_ _)); refine blk_far ?_ NB399_400.out _; (with_reducible repeat (first | refine blk_drewN ?_ _ | refine blk_drew ?_ | refine blk_alloc ?_ _)); exact BK399.out⟩, ⟨by (with_reducible repeat (first | refine blk_drewN ?_ _ | refine blk_drew ?_ | refine blk_alloc ?_ _)); refine blk_put (cs := #[.int .i64 x401000_1, .string x401001_1, .bool x401002_4, .int .i64 x401003_4, .int .i64 x401004_4, .bool x401005_4]) ?_ 4 _ rfl; (with_reducible repeat (first | refine blk_drewN ?_ _ | refine blk_drew ?_ | refine blk_alloc ?_ _)); exact BK400.out⟩, ⟨by (with_reducible repeat (first | refine blk_drewN ?_ _ | refine blk_drew ?_ | refine blk_alloc ?_ _)); refine blk_far ?_ NB408_400.out _; (with_reducible repeat (first | refine blk_drewN ?_ _ | refine blk_drew ?_ | refine blk_alloc ?_ _)); exact BK408.out⟩, ⟨by repeat (first | (with_reducible first | exact HB.out | apply below_alloc | apply pw_below_drewN | apply below_drew1 | refine below_set ?_ GE399.out | refine below_set ?_ GE400.out | refine below_set ?_ GE408.out) | exact HB.out)⟩⟩
                                          · rw [if_neg c61] at H
                                            have c61b0 : (((rd_T62 t404 x10_4).f0) == 2) = false := beq_eq_false_iff_ne.mpr c61
                                            have c61b1 : (((rd_T62 t404 x10_4).f0) != 2) = true := bne_iff_ne.mpr c61
                                            by_cases c66 : ((rd_T62 t404 x10_4).f0) = 3
                                            · rw [if_pos c66] at H
                                              have c66b0 : (((rd_T62 t404 x10_4).f0) == 3) = true := beq_iff_eq.mpr c66
                                              have c66b1 : (((rd_T62 t404 x10_4).f0) != 3) = false := bne_eq_false_iff_eq.mpr c66
                                              clear c66
                                              have H' := Aside0.mk H
                                              clear H
                                              obtain ⟨Ao67, co67, eo67⟩ := Kd.R_slice HO_8.out
                                              subst eo67
                                              have p411 : 0 ≤ (x10_4 : Int) := of_decide_eq_true (by first | (with_reducible assumption) | assumption)
                                              have q411 : x10_4 < (t404.length : Int) := of_decide_eq_true (by first | (with_reducible assumption) | assumption)
                                              obtain ⟨ad411, e411, hx411_0, hx411_1, hx411_2, hx411_3⟩ := at_T62 (Kd.R_reads' HO_8.out).2.2 x10_4 p411 q411
                                              cases e411
                                              replace p411 := eq_true p411
                                              replace q411 := eq_true q411
                                              have p414 : 0 ≤ (x10_4 : Int) := of_decide_eq_true (by first | (with_reducible assumption) | assumption)
                                              have q414 : x10_4 < (t404.length : Int) := of_decide_eq_true (by first | (with_reducible assumption) | assumption)
                                              obtain ⟨ad414, e414, hx414_0, hx414_1, hx414_2, hx414_3⟩ := at_T62 (Kd.R_reads' HO_8.out).2.2 x10_4 p414 q414
                                              obtain rfl : ad411 = ad414 := (by injection e414)
                                              replace p414 := eq_true p414
                                              replace q414 := eq_true q414
                                              have hnb68 := NB400_399.out
                                              have hnc68 := NB399_400.out
                                              have hnb69 := NB400_408.out
                                              have hnc69 := NB408_400.out
                                              have hcz70_0 : wr.cell? ⟨gb400, 0, none⟩ = some (.int .i64 x401000_1) := (blk_cell BK400.out 0).trans rfl
                                              have hcz70_1 : wr.cell? ⟨gb400, 1, none⟩ = some (.string x401001_1) := (blk_cell BK400.out 1).trans rfl
                                              have hcz70_2 : wr.cell? ⟨gb400, 2, none⟩ = some (.bool x401002_4) := (blk_cell BK400.out 2).trans rfl
                                              have hcz70_3 : wr.cell? ⟨gb400, 3, none⟩ = some (.int .i64 x401003_4) := (blk_cell BK400.out 3).trans rfl
                                              have hcz70_4 : wr.cell? ⟨gb400, 4, none⟩ = some (.int .i64 x401004_4) := (blk_cell BK400.out 4).trans rfl
                                              have hcz70_5 : wr.cell? ⟨gb400, 5, none⟩ = some (.bool x401005_4) := (blk_cell BK400.out 5).trans rfl
                                              have hfz70_0 := blk_frozen BK400.out 0
                                              have hfz70_1 := blk_frozen BK400.out 1
                                              have hfz70_2 := blk_frozen BK400.out 2
                                              have hfz70_3 := blk_frozen BK400.out 3
                                              have hfz70_4 := blk_frozen BK400.out 4
                                              have hfz70_5 := blk_frozen BK400.out 5
                                              go_wp2
                                              go_roundg k4
                                              case measure => have := HK1.out; have := HJ10.out; have := HJ23.out; have := HK4.out; omega
                                              case rel => exact ⟨(wrap64 (x10_4 + 1)), (x401002_4), (x401003_4), ((rd_T62 t404 x10_4).f0), (x401005_4), (by first | rfl | (simp; done) | (simp [*]; done)), H', ⟨by have := HK1.out; have := HJ10.out; have := HJ23.out; have := HK4.out; omega⟩, ⟨by (with_reducible repeat (first | apply Kd.R_alloc | apply Kd.R_drewN | apply Kd.R_drew)); exact Kd.R_mono (Kd.R_far (p := ⟨gb400, 4, none⟩) (Kd.R_types HO_8.out BK400.out (by decide)) (fun _ hk => hk.2) (.int .i64 ((rd_T62 t404 x10_4).f0))) (fun _ hk => trivial)⟩, ⟨by (with_reducible repeat (first | refine blk_drewN ?_ _ | refine blk_drew ?_ | refine blk_alloc ?_ _)); refine blk_far ?_ NB399_400.out _; (with_reducible repeat (first | refine blk_drewN ?_ _ | refine blk_drew ?_ | refine blk_alloc ?_ _)); exact BK399.out⟩, ⟨by (with_reducible repeat (first | refine blk_drewN ?_ _ | refine blk_drew ?_ | refine blk_alloc ?_ _)); refine blk_put (cs := #[.int .i64 x401000_1, .string x401001_1, .bool x401002_4, .int .i64 x401003_4, .int .i64 x401004_4, .bool x401005_4]) ?_ 4 _ rfl; (with_reducible repeat (first | refine blk_drewN ?_ _ | refine blk_drew ?_ | refine blk_alloc ?_ _)); exact BK400.out⟩, ⟨by (with_reducible repeat (first | refine blk_drewN ?_ _ | refine blk_drew ?_ | refine blk_alloc ?_ _)); refine blk_far ?_ NB408_400.out _; (with_reducible repeat (first | refine blk_drewN ?_ _ | refine blk_drew ?_ | refine blk_alloc ?_ _)); exact BK408.out⟩, ⟨by repeat (first | (with_reducible first | exact HB.out | apply below_alloc | apply pw_below_drewN | apply below_drew1 | refine below_set ?_ GE399.out | refine below_set ?_ GE400.out | refine below_set ?_ GE408.out) | exact HB.out)⟩⟩
                                            · rw [if_neg c66] at H
                                              have c66b0 : (((rd_T62 t404 x10_4).f0) == 3) = false := beq_eq_false_iff_ne.mpr c66
                                              have c66b1 : (((rd_T62 t404 x10_4).f0) != 3) = true := bne_iff_ne.mpr c66
                                              by_cases c71 : ((rd_T62 t404 x10_4).f0) = 4
                                              · rw [if_pos c71] at H
                                                have c71b0 : (((rd_T62 t404 x10_4).f0) == 4) = true := beq_iff_eq.mpr c71
                                                have c71b1 : (((rd_T62 t404 x10_4).f0) != 4) = false := bne_eq_false_iff_eq.mpr c71
                                                clear c71
                                                have H' := Aside0.mk H
                                                clear H
                                                obtain ⟨Ao72, co72, eo72⟩ := Kd.R_slice HO_8.out
                                                subst eo72
                                                have p411 : 0 ≤ (x10_4 : Int) := of_decide_eq_true (by first | (with_reducible assumption) | assumption)
                                                have q411 : x10_4 < (t404.length : Int) := of_decide_eq_true (by first | (with_reducible assumption) | assumption)
                                                obtain ⟨ad411, e411, hx411_0, hx411_1, hx411_2, hx411_3⟩ := at_T62 (Kd.R_reads' HO_8.out).2.2 x10_4 p411 q411
                                                cases e411
                                                replace p411 := eq_true p411
                                                replace q411 := eq_true q411
                                                have p415 : 0 ≤ (x10_4 : Int) := of_decide_eq_true (by first | (with_reducible assumption) | assumption)
                                                have q415 : x10_4 < (t404.length : Int) := of_decide_eq_true (by first | (with_reducible assumption) | assumption)
                                                obtain ⟨ad415, e415, hx415_0, hx415_1, hx415_2, hx415_3⟩ := at_T62 (Kd.R_reads' HO_8.out).2.2 x10_4 p415 q415
                                                obtain rfl : ad411 = ad415 := (by injection e415)
                                                replace p415 := eq_true p415
                                                replace q415 := eq_true q415
                                                have hnb73 := NB400_399.out
                                                have hnc73 := NB399_400.out
                                                have hnb74 := NB400_408.out
                                                have hnc74 := NB408_400.out
                                                have hcz75_0 : wr.cell? ⟨gb400, 0, none⟩ = some (.int .i64 x401000_1) := (blk_cell BK400.out 0).trans rfl
                                                have hcz75_1 : wr.cell? ⟨gb400, 1, none⟩ = some (.string x401001_1) := (blk_cell BK400.out 1).trans rfl
                                                have hcz75_2 : wr.cell? ⟨gb400, 2, none⟩ = some (.bool x401002_4) := (blk_cell BK400.out 2).trans rfl
                                                have hcz75_3 : wr.cell? ⟨gb400, 3, none⟩ = some (.int .i64 x401003_4) := (blk_cell BK400.out 3).trans rfl
                                                have hcz75_4 : wr.cell? ⟨gb400, 4, none⟩ = some (.int .i64 x401004_4) := (blk_cell BK400.out 4).trans rfl
                                                have hcz75_5 : wr.cell? ⟨gb400, 5, none⟩ = some (.bool x401005_4) := (blk_cell BK400.out 5).trans rfl
                                                have hfz75_0 := blk_frozen BK400.out 0
                                                have hfz75_1 := blk_frozen BK400.out 1
                                                have hfz75_2 := blk_frozen BK400.out 2
                                                have hfz75_3 := blk_frozen BK400.out 3
                                                have hfz75_4 := blk_frozen BK400.out 4
                                                have hfz75_5 := blk_frozen BK400.out 5
                                                go_wp2
                                                go_roundg k4
                                                case measure => have := HK1.out; have := HJ10.out; have := HJ23.out; have := HK4.out; omega
                                                case rel => exact ⟨(wrap64 (x10_4 + 1)), (x401002_4), (x401003_4), ((rd_T62 t404 x10_4).f0), (x401005_4), (by first | rfl | (simp; done) | (simp [*]; done)), H', ⟨by have := HK1.out; have := HJ10.out; have := HJ23.out; have := HK4.out; omega⟩, ⟨by (with_reducible repeat (first | apply Kd.R_alloc | apply Kd.R_drewN | apply Kd.R_drew)); exact Kd.R_mono (Kd.R_far (p := ⟨gb400, 4, none⟩) (Kd.R_types HO_8.out BK400.out (by decide)) (fun _ hk => hk.2) (.int .i64 ((rd_T62 t404 x10_4).f0))) (fun _ hk => trivial)⟩, ⟨by (with_reducible repeat (first | refine blk_drewN ?_ _ | refine blk_drew ?_ | refine blk_alloc ?_ _)); refine blk_far ?_ NB399_400.out _; (with_reducible repeat (first | refine blk_drewN ?_ _ | refine blk_drew ?_ | refine blk_alloc ?_ _)); exact BK399.out⟩, ⟨by (with_reducible repeat (first | refine blk_drewN ?_ _ | refine blk_drew ?_ | refine blk_alloc ?_ _)); refine blk_put (cs := #[.int .i64 x401000_1, .string x401001_1, .bool x401002_4, .int .i64 x401003_4, .int .i64 x401004_4, .bool x401005_4]) ?_ 4 _ rfl; (with_reducible repeat (first | refine blk_drewN ?_ _ | refine blk_drew ?_ | refine blk_alloc ?_ _)); exact BK400.out⟩, ⟨by (with_reducible repeat (first | refine blk_drewN ?_ _ | refine blk_drew ?_ | refine blk_alloc ?_ _)); refine blk_far ?_ NB408_400.out _; (with_reducible repeat (first | refine blk_drewN ?_ _ | refine blk_drew ?_ | refine blk_alloc ?_ _)); exact BK408.out⟩, ⟨by repeat (first | (with_reducible first | exact HB.out | apply below_alloc | apply pw_below_drewN | apply below_drew1 | refine below_set ?_ GE399.out | refine below_set ?_ GE400.out | refine below_set ?_ GE408.out) | exact HB.out)⟩⟩
                                              · rw [if_neg c71] at H
                                                have c71b0 : (((rd_T62 t404 x10_4).f0) == 4) = false := beq_eq_false_iff_ne.mpr c71
                                                have c71b1 : (((rd_T62 t404 x10_4).f0) != 4) = true := bne_iff_ne.mpr c71
                                                have H' := Aside0.mk H
                                                clear H
                                                obtain ⟨Ao76, co76, eo76⟩ := Kd.R_slice HO_8.out
                                                subst eo76
                                                have p411 : 0 ≤ (x10_4 : Int) := of_decide_eq_true (by first | (with_reducible assumption) | assumption)
                                                have q411 : x10_4 < (t404.length : Int) := of_decide_eq_true (by first | (with_reducible assumption) | assumption)
                                                obtain ⟨ad411, e411, hx411_0, hx411_1, hx411_2, hx411_3⟩ := at_T62 (Kd.R_reads' HO_8.out).2.2 x10_4 p411 q411
                                                cases e411
                                                replace p411 := eq_true p411
                                                replace q411 := eq_true q411
                                                go_wp2
                                                go_roundg k4
                                                case measure => have := HK1.out; have := HJ10.out; have := HJ23.out; have := HK4.out; omega
                                                case rel => exact ⟨(wrap64 (x10_4 + 1)), (x401002_4), (x401003_4), (x401004_4), (x401005_4), (by first | rfl | (simp; done) | (simp [*]; done)), H', ⟨by have := HK1.out; have := HJ10.out; have := HJ23.out; have := HK4.out; omega⟩, ⟨by (with_reducible repeat (first | apply Kd.R_alloc | apply Kd.R_drewN | apply Kd.R_drew)); exact HO_8.out⟩, ⟨by (with_reducible repeat (first | refine blk_drewN ?_ _ | refine blk_drew ?_ | refine blk_alloc ?_ _)); exact BK399.out⟩, ⟨by (with_reducible repeat (first | refine blk_drewN ?_ _ | refine blk_drew ?_ | refine blk_alloc ?_ _)); exact BK400.out⟩, ⟨by (with_reducible repeat (first | refine blk_drewN ?_ _ | refine blk_drew ?_ | refine blk_alloc ?_ _)); exact BK408.out⟩, ⟨by repeat (first | (with_reducible first | exact HB.out | apply below_alloc | apply pw_below_drewN | apply below_drew1 | refine below_set ?_ GE399.out | refine below_set ?_ GE400.out | refine below_set ?_ GE408.out) | exact HB.out)⟩⟩
                              · rw [if_neg c30] at H
                                exact absurd H (by simp)
                            · rw [if_neg c29] at H
                              have c29b0 : decide (x10_4 < (t404.length : Int)) = false := decide_eq_false c29
                              clear c29
                              have H' := Aside0.mk H
                              clear H
                              obtain ⟨Ao77, co77, eo77⟩ := Kd.R_slice HO_8.out
                              subst eo77
                              have hnb78 := NB408_399.out
                              have hnc78 := NB399_408.out
                              have hnb79 := NB408_400.out
                              have hnc79 := NB400_408.out
                              have hcz80_0 : wr.cell? ⟨gb408, 0, none⟩ = some (.int .i64 t402) := (blk_cell BK408.out 0).trans rfl
                              have hcz80_1 : wr.cell? ⟨gb408, 1, none⟩ = some (.string t403) := (blk_cell BK408.out 1).trans rfl
                              have hfz80_0 := blk_frozen BK408.out 0
                              have hfz80_1 := blk_frozen BK408.out 1
                              have hnb81 := NB400_399.out
                              have hnc81 := NB399_400.out
                              have hcz82_0 : wr.cell? ⟨gb400, 0, none⟩ = some (.int .i64 x401000_1) := (blk_cell BK400.out 0).trans rfl
                              have hcz82_1 : wr.cell? ⟨gb400, 1, none⟩ = some (.string x401001_1) := (blk_cell BK400.out 1).trans rfl
                              have hcz82_2 : wr.cell? ⟨gb400, 2, none⟩ = some (.bool x401002_4) := (blk_cell BK400.out 2).trans rfl
                              have hcz82_3 : wr.cell? ⟨gb400, 3, none⟩ = some (.int .i64 x401003_4) := (blk_cell BK400.out 3).trans rfl
                              have hcz82_4 : wr.cell? ⟨gb400, 4, none⟩ = some (.int .i64 x401004_4) := (blk_cell BK400.out 4).trans rfl
                              have hcz82_5 : wr.cell? ⟨gb400, 5, none⟩ = some (.bool x401005_4) := (blk_cell BK400.out 5).trans rfl
                              have hfz82_0 := blk_frozen BK400.out 0
                              have hfz82_1 := blk_frozen BK400.out 1
                              have hfz82_2 := blk_frozen BK400.out 2
                              have hfz82_3 := blk_frozen BK400.out 3
                              have hfz82_4 := blk_frozen BK400.out 4
                              have hfz82_5 := blk_frozen BK400.out 5
                              go_wp2
                              go_roundg k4
                              case measure => have := HK1.out; have := HJ10.out; have := HJ23.out; have := HK4.out; omega
                              case rel => exact ⟨(wrap64 (x6_1 + 1)), (t402), (t403), (x401002_4), (x401003_4), (x401004_4), (x401005_4), (by first | rfl | (simp; done) | (simp [*]; done)), H', ⟨by have := HK1.out; have := HJ10.out; have := HJ23.out; have := HK4.out; omega⟩, ⟨by (with_reducible repeat (first | refine blk_drewN ?_ _ | refine blk_drew ?_ | refine blk_alloc ?_ _)); refine blk_far ?_ NB399_400.out _; (with_reducible repeat (first | refine blk_drewN ?_ _ | refine blk_drew ?_ | refine blk_alloc ?_ _)); refine blk_far ?_ NB399_400.out _; (with_reducible repeat (first | refine blk_drewN ?_ _ | refine blk_drew ?_ | refine blk_alloc ?_ _)); exact BK399.out⟩, ⟨by (with_reducible repeat (first | refine blk_drewN ?_ _ | refine blk_drew ?_ | refine blk_alloc ?_ _)); refine blk_put (cs := #[.int .i64 t402, .string x401001_1, .bool x401002_4, .int .i64 x401003_4, .int .i64 x401004_4, .bool x401005_4]) ?_ 1 _ rfl; (with_reducible repeat (first | refine blk_drewN ?_ _ | refine blk_drew ?_ | refine blk_alloc ?_ _)); refine blk_put (cs := #[.int .i64 x401000_1, .string x401001_1, .bool x401002_4, .int .i64 x401003_4, .int .i64 x401004_4, .bool x401005_4]) ?_ 0 _ rfl; (with_reducible repeat (first | refine blk_drewN ?_ _ | refine blk_drew ?_ | refine blk_alloc ?_ _)); exact BK400.out⟩, ⟨by repeat (first | (with_reducible first | exact HB.out | apply below_alloc | apply pw_below_drewN | apply below_drew1 | refine below_set ?_ GE399.out | refine below_set ?_ GE400.out | refine below_set ?_ GE408.out) | exact HB.out)⟩⟩
                  · rw [if_neg c23] at H
                    exact absurd H (by simp)
                · rw [if_neg c22] at H
                  exact absurd H (by simp)
          · rw [if_neg c10] at H
            have c10b0 : (t407 == 0) = false := beq_eq_false_iff_ne.mpr c10
            have c10b1 : (t407 != 0) = true := bne_iff_ne.mpr c10
            by_cases c83 : x401005_1 = true
            · subst c83
              have H1 : (if (t404.length : Int) = 0 then (crossbarlaw16_run.l0 k1 l0 l1 (wrap64 (x6_1 + 1)) x401000_1 x401001_1 x401002_1 x401003_1 x401004_1 (t402 == 0 && (t403.toList == ([] : List UInt8)))) else (crossbarlaw16_run.l0 k1 l0 l1 (wrap64 (x6_1 + 1)) x401000_1 x401001_1 x401002_1 x401003_1 x401004_1 false)) = some (r1, r2, r3, r4, r5, r6) := by rw [if_pos rfl] at H; exact H
              clear H
              have H := H1
              clear H1
              by_cases c84 : (t404.length : Int) = 0
              · rw [if_pos c84] at H
                have c84b0 : ((t404.length : Int) == 0) = true := beq_iff_eq.mpr c84
                have c84b1 : ((t404.length : Int) != 0) = false := bne_eq_false_iff_eq.mpr c84
                clear c84
                have H' := Aside0.mk H
                clear H
                try go_wp2
                have n0_ := Aside0.mk (blk_drew BK399.out)
                have n1_ := Aside0.mk (blk_drew BK400.out)
                have n2_ := Aside0.mk (below_drew1 HB.out)
                clear BK399
                clear BK400
                clear HB
                have BK399 := n0_
                have BK400 := n1_
                have HB := n2_
                clear n0_ n1_ n2_
                have p401 : 0 ≤ (x6_1 : Int) := of_decide_eq_true (by first | (with_reducible assumption) | assumption)
                have q401 : x6_1 < (l1.length : Int) := of_decide_eq_true (by first | (with_reducible assumption) | assumption)
                obtain ⟨ad401, e401, hx401_0, hx401_1, hx401_2⟩ := at_T47 HR1.out x6_1 p401 q401
                have hw401_2 := hx401_2
                have hw401_1 := hx401_1
                have hw401_0 := hx401_0
                cases e401
                replace hx401_0 := (HB.out.cell (World.block_lt_of_cell? w _ hx401_0)).trans hx401_0
                replace hx401_1 := (HB.out.cell (World.block_lt_of_cell? w _ hx401_1)).trans hx401_1
                replace hx401_2 := (HB.out.cell (World.block_lt_of_cell? w _ hx401_2)).trans hx401_2
                replace p401 := eq_true p401
                replace q401 := eq_true q401
                refine start_ (n := 16) (S := fun w' => w'.cell? ⟨gb400, 0, none⟩ = some (.int .i64 x401000_1) ∧ w'.cell? ⟨gb400, 1, none⟩ = some (.string x401001_1) ∧ w'.cell? ⟨gb400, 2, none⟩ = some (.bool x401002_1) ∧ w'.cell? ⟨gb400, 3, none⟩ = some (.int .i64 x401003_1) ∧ w'.cell? ⟨gb400, 4, none⟩ = some (.int .i64 x401004_1) ∧ w'.cell? ⟨gb400, 5, none⟩ = some (.bool true) ∧ w'.cell? (ad401.add ((x6_1).toNat * 3)) = some (.int .i64 ((rd_T47 l1 x6_1).f0)) ∧ w'.cell? ⟨(ad401.add ((x6_1).toNat * 3)).block, (ad401.add ((x6_1).toNat * 3)).off + 1, none⟩ = some (.int .i64 ((rd_T47 l1 x6_1).f1)) ∧ w'.cell? ⟨(ad401.add ((x6_1).toNat * 3)).block, (ad401.add ((x6_1).toNat * 3)).off + 2, none⟩ = some (.int .u8 ((rd_T47 l1 x6_1).f2))) (ds := []) #[false, false, false, false, false, false, false, false, false, false, false, false, false, false, false, false] (by kernel_rfl) rfl rfl ⟨(blk_cell BK400.out 0).trans rfl, (blk_cell BK400.out 1).trans rfl, (blk_cell BK400.out 2).trans rfl, (blk_cell BK400.out 3).trans rfl, (blk_cell BK400.out 4).trans rfl, (blk_cell BK400.out 5).trans rfl, ((HB.out.cell (World.block_lt_of_cell? w _ hw401_0)).trans hw401_0), ((HB.out.cell (World.block_lt_of_cell? w _ hw401_1)).trans hw401_1), ((HB.out.cell (World.block_lt_of_cell? w _ hw401_2)).trans hw401_2)⟩ (fun hHeld => ?_); refine with_tabW crossbarlaw16_run.tab5 crossbarlaw16_run.bits5 (fun HT_ HW_ => ?_)
                generalize wr.drew = w85 at BK399 BK400 HB hx401_0 hx401_1 hx401_2 hHeld ⊢
                refine pure_ (i := 0) (N := some 19) (v := ?_) (a' := ?_) #[true, false, false, false, false, false, false, false, false, false, false, false, false, false, false, false] rfl rfl (any_of HT_.out (by kernel_rfl)) (fun _ _ _ h => h) (Or.inl ⟨by rfl, ?_⟩) ?_ ?_
                rotate_left
                · intro w'
                  go_simp
                  with_reducible rfl
                rotate_left
                · simp only [Act.put, List.setIfInBounds_toArray, List.set_cons_zero, List.set_cons_succ]
                  rfl
                refine pure_ (i := 2) (N := some 21) (v := ?_) (a' := ?_) #[true, false, true, false, false, false, false, false, false, false, false, false, false, false, false, false] rfl rfl (any_of HT_.out (by kernel_rfl)) (fun _ _ _ h => h) (Or.inl ⟨by rfl, ?_⟩) ?_ ?_
                rotate_left
                · intro w'
                  go_simp
                  with_reducible rfl
                rotate_left
                · simp only [Act.put, List.setIfInBounds_toArray, List.set_cons_zero, List.set_cons_succ]
                  rfl
                refine pure_ (i := 3) (N := some 22) (v := ?_) (a' := ?_) #[true, false, true, true, false, false, false, false, false, false, false, false, false, false, false, false] rfl rfl (any_of HT_.out (by kernel_rfl)) (fun _ _ _ h => h) (Or.inl ⟨by rfl, ?_⟩) ?_ ?_
                rotate_left
                · intro w'
                  go_simp
                  with_reducible rfl
                rotate_left
                · simp only [Act.put, List.setIfInBounds_toArray, List.set_cons_zero, List.set_cons_succ]
                  rfl
                refine pure_ (i := 4) (N := some 23) (v := ?_) (a' := ?_) #[true, false, true, true, true, false, false, false, false, false, false, false, false, false, false, false] rfl rfl (any_of HT_.out (by kernel_rfl)) (fun _ _ _ h => h) (Or.inl ⟨by rfl, ?_⟩) ?_ ?_
                rotate_left
                · intro w'
                  go_simp
                  with_reducible rfl
                rotate_left
                · simp only [Act.put, List.setIfInBounds_toArray, List.set_cons_zero, List.set_cons_succ]
                  rfl
                refine pure_ (i := 5) (N := some 24) (v := ?_) (a' := ?_) #[true, false, true, true, true, true, false, false, false, false, false, false, false, false, false, false] rfl rfl (any_of HT_.out (by kernel_rfl)) (fun _ _ _ h => h) (Or.inl ⟨by rfl, ?_⟩) ?_ ?_
                rotate_left
                · intro w'
                  go_simp
                  with_reducible rfl
                rotate_left
                · simp only [Act.put, List.setIfInBounds_toArray, List.set_cons_zero, List.set_cons_succ]
                  rfl
                refine take_ (i := 1) (N := some 20) (v := ?_) (a' := ?_) #[true, true, true, true, true, true, false, false, false, false, false, false, false, false, false, false] rfl rfl (take_ofW HT_.out HW_.out (by kernel_rfl)) (fun _ _ _ h => h) (Or.inl ⟨by rfl, ?_⟩) hHeld ?_ ?_
                rotate_left
                · rintro w' ⟨s0, s1, s2, s3, s4, s5, s6, s7, s8⟩
                  go_simp
                  with_reducible rfl
                rotate_left
                · simp only [Act.put, List.setIfInBounds_toArray, List.set_cons_zero, List.set_cons_succ]
                  rfl
                refine take_ (i := 6) (N := some 25) (v := ?_) (a' := ?_) #[true, true, true, true, true, true, true, false, false, false, false, false, false, false, false, false] rfl rfl (take_ofW HT_.out HW_.out (by kernel_rfl)) (fun _ _ _ h => h) (Or.inl ⟨by rfl, ?_⟩) hHeld ?_ ?_
                rotate_left
                · rintro w' ⟨s0, s1, s2, s3, s4, s5, s6, s7, s8⟩
                  go_simp
                  with_reducible rfl
                rotate_left
                · simp only [Act.put, List.setIfInBounds_toArray, List.set_cons_zero, List.set_cons_succ]
                  rfl
                refine join_ (σ := Value × Nat) 3 #[true, true, true, true, true, true, true, true, true, true, true, true, true, false, false, false] (fun s_ => [(26, .tuple #[.agg #[.int .i64 t402, .string t403], s_.1, .int .i64 t407]), (7, .pointer (some ⟨s_.2, 0, none⟩)), (18, .tuple #[.agg #[.int .i64 t402, .string t403], s_.1, .int .i64 t407]), (27, .agg #[.int .i64 t402, .string t403]), (28, s_.1), (29, .int .i64 t407)]) (fun s_ w' => (w'.cell? ⟨gb400, 0, none⟩ = some (.int .i64 x401000_1) ∧ w'.cell? ⟨gb400, 1, none⟩ = some (.string x401001_1) ∧ w'.cell? ⟨gb400, 2, none⟩ = some (.bool x401002_1) ∧ w'.cell? ⟨gb400, 3, none⟩ = some (.int .i64 x401003_1) ∧ w'.cell? ⟨gb400, 4, none⟩ = some (.int .i64 x401004_1) ∧ w'.cell? ⟨gb400, 5, none⟩ = some (.bool true) ∧ w'.cell? (ad401.add ((x6_1).toNat * 3)) = some (.int .i64 ((rd_T47 l1 x6_1).f0)) ∧ w'.cell? ⟨(ad401.add ((x6_1).toNat * 3)).block, (ad401.add ((x6_1).toNat * 3)).off + 1, none⟩ = some (.int .i64 ((rd_T47 l1 x6_1).f1)) ∧ w'.cell? ⟨(ad401.add ((x6_1).toNat * 3)).block, (ad401.add ((x6_1).toNat * 3)).off + 2, none⟩ = some (.int .u8 ((rd_T47 l1 x6_1).f2))) ∧ (Kd.R k62 62 w' w.heap.size (fun _ => True) s_.1 t404) ∧ (w'.heap[gb399]? = some (.cells #[.int .i64 0, .string (⟨#[]⟩ : ByteArray), .bool false, .int .i64 0, .int .i64 0, .bool false] 58 (0, 0))) ∧ (w'.heap[gb400]? = some (.cells #[.int .i64 x401000_1, .string x401001_1, .bool x401002_1, .int .i64 x401003_1, .int .i64 x401004_1, .bool true] 58 (0, 0))) ∧ (w'.heap[s_.2]? = some (.cells #[.int .i64 0, .string (⟨#[]⟩ : ByteArray)] 45 (0, 0))) ∧ (w.heap.size ≤ s_.2) ∧ (w.heap.size ≤ s_.2) ∧ (gb399 ≠ s_.2) ∧ (s_.2 ≠ gb399) ∧ (gb400 ≠ s_.2) ∧ (s_.2 ≠ gb400) ∧ (Below w.heap.size w w')) ?_ ?_
                rotate_left
                · intro hCont
                  refine two_ (i := 7) (j := 12) (Ni := some 26) (Nj := some 7) #[true, true, true, true, true, true, true, true, false, false, false, false, false, false, false, false] #[true, true, true, true, true, true, true, false, false, false, false, false, true, false, false, false] rfl rfl rfl rfl (two_of HT_.out (by kernel_rfl)) (by decide) (by decide) (fun K hK => ?_) (fun K hK => ?_)
                  · skip
                    refine goes_ Tryd.func24 (by kernel_rfl) rfl #[.agg #[.int .i64 x401000_1, .string x401001_1], .slice A0 l0.length c0, .agg #[.int .i64 ((rd_T47 l1 x6_1).f0), .int .i64 ((rd_T47 l1 x6_1).f1), .int .u8 ((rd_T47 l1 x6_1).f2)]] (by rfl) rfl rfl (by (try simp only [List.map_toArray, List.map_cons, List.map_nil]); first | done | rfl | (simp only [List.length_drop, List.length_take]; rfl)) ?_
                    with_reducible refine (origin_Step.calls k1 x401000_1 x401001_1 _ _ l0 ((rd_T47 l1 x6_1).f0) ((rd_T47 l1 x6_1).f1) ((rd_T47 l1 x6_1).f2) t402 t403 t404 t407 _ ?side1 ?side2 A9.out).mono ?_
                    (case side1 => repeat (first | exact (Kd.C_below HR0.out HB.out) | (with_reducible refine Kd.C_alloc ?_ _) | (with_reducible refine Kd.C_drewN ?_ _) | (with_reducible refine Kd.C_drew ?_)))
                    (case side2 => exact HC0.out)
                    rintro e w86 ⟨v405, rfl, ho0, hb⟩
                    refine ⟨_, rfl, ?_⟩
                    have n0_ := Aside0.mk (Kd.R_lower ho0 (below_size (by repeat (first | (with_reducible first | exact HB.out | apply below_alloc | apply pw_below_drewN | apply below_drew1 | refine below_set ?_ GE399.out | refine below_set ?_ GE400.out) | exact HB.out))))
                    have n1_ := Aside0.mk (blk_below (g := gb399) (o := .cells #[.int .i64 0, .string (⟨#[]⟩ : ByteArray), .bool false, .int .i64 0, .int .i64 0, .bool false] 58 (0, 0)) (by (with_reducible repeat (first | refine blk_drewN ?_ _ | refine blk_drew ?_ | refine blk_alloc ?_ _)); exact BK399.out) hb)
                    have n2_ := Aside0.mk (blk_below (g := gb400) (o := .cells #[.int .i64 x401000_1, .string x401001_1, .bool x401002_1, .int .i64 x401003_1, .int .i64 x401004_1, .bool true] 58 (0, 0)) (by (with_reducible repeat (first | refine blk_drewN ?_ _ | refine blk_drew ?_ | refine blk_alloc ?_ _)); exact BK400.out) hb)
                    have n3_ := Aside0.mk (below_step (by repeat (first | (with_reducible first | exact HB.out | apply below_alloc | apply pw_below_drewN | apply below_drew1 | refine below_set ?_ GE399.out | refine below_set ?_ GE400.out) | exact HB.out)) hb)
                    clear BK399
                    clear BK400
                    clear HB
                    have HO406 := n0_
                    have BK399 := n1_
                    have BK400 := n2_
                    have HB := n3_
                    clear n0_ n1_ n2_ n3_
                    (try clear hb)
                    (try clear hb2)
                    (try clear hk)
                    (try clear hi)
                    (try clear ho0)
                    refine hK.out _ _ ⟨(blk_cell BK400.out 0).trans rfl, (blk_cell BK400.out 1).trans rfl, (blk_cell BK400.out 2).trans rfl, (blk_cell BK400.out 3).trans rfl, (blk_cell BK400.out 4).trans rfl, (blk_cell BK400.out 5).trans rfl, ((HB.out.cell (World.block_lt_of_cell? w _ hw401_0)).trans hw401_0), ((HB.out.cell (World.block_lt_of_cell? w _ hw401_1)).trans hw401_1), ((HB.out.cell (World.block_lt_of_cell? w _ hw401_2)).trans hw401_2)⟩ (fun hHeld => ?_)
                    clear hK K
                    refine norm_ (a' := ?_) ?_ ?_
                    rotate_left
                    · show Act.put _ (some 26) _ = _
                      simp only [Act.put, List.setIfInBounds_toArray, List.set_cons_zero, List.set_cons_succ]
                      rfl
                    refine pure_ (i := 8) (N := some 18) (v := ?_) (a' := ?_) #[true, true, true, true, true, true, true, true, true, false, false, false, false, false, false, false] rfl rfl (any_of HT_.out (by kernel_rfl)) (fun _ _ _ h => h) (Or.inl ⟨by rfl, ?_⟩) ?_ ?_
                    rotate_left
                    · intro w'
                      go_simp
                      with_reducible rfl
                    rotate_left
                    · simp only [Act.put, List.setIfInBounds_toArray, List.set_cons_zero, List.set_cons_succ]
                      rfl
                    refine pure_ (i := 9) (N := some 27) (v := ?_) (a' := ?_) #[true, true, true, true, true, true, true, true, true, true, false, false, false, false, false, false] rfl rfl (any_of HT_.out (by kernel_rfl)) (fun _ _ _ h => h) (Or.inl ⟨by rfl, ?_⟩) ?_ ?_
                    rotate_left
                    · intro w'
                      go_simp
                      with_reducible rfl
                    rotate_left
                    · simp only [Act.put, List.setIfInBounds_toArray, List.set_cons_zero, List.set_cons_succ]
                      rfl
                    refine pure_ (i := 10) (N := some 28) (v := ?_) (a' := ?_) #[true, true, true, true, true, true, true, true, true, true, true, false, false, false, false, false] rfl rfl (any_of HT_.out (by kernel_rfl)) (fun _ _ _ h => h) (Or.inl ⟨by rfl, ?_⟩) ?_ ?_
                    rotate_left
                    · intro w'
                      go_simp
                      with_reducible rfl
                    rotate_left
                    · simp only [Act.put, List.setIfInBounds_toArray, List.set_cons_zero, List.set_cons_succ]
                      rfl
                    refine pure_ (i := 11) (N := some 29) (v := ?_) (a' := ?_) #[true, true, true, true, true, true, true, true, true, true, true, true, false, false, false, false] rfl rfl (any_of HT_.out (by kernel_rfl)) (fun _ _ _ h => h) (Or.inl ⟨by rfl, ?_⟩) ?_ ?_
                    rotate_left
                    · intro w'
                      go_simp
                      with_reducible rfl
                    rotate_left
                    · simp only [Act.put, List.setIfInBounds_toArray, List.set_cons_zero, List.set_cons_succ]
                      rfl
                    refine one_ (i := 12) (N := some 7) #[true, true, true, true, true, true, true, true, true, true, true, true, true, false, false, false] rfl rfl (one_of HT_.out (by kernel_rfl)) (by decide) (fun K hK => ?_)
                    refine box_step ?hg (N := 7) ?hd (cs := #[.int .i64 0, .string (⟨#[]⟩ : ByteArray)]) (t := 45) ?hr ?_; (case hd => rfl); (case hg => rfl); (case hr => first | (go_simp; done) | (go_simp; rfl))
                    intro gb408 hg w87 hbox hb
                    have n0_ := Aside0.mk (Kd.R_below (by (with_reducible repeat (first | apply Kd.R_alloc | apply Kd.R_drewN | apply Kd.R_drew)); exact HO406.out) hb)
                    have n1_ := Aside0.mk (blk_below (g := gb399) (o := .cells #[.int .i64 0, .string (⟨#[]⟩ : ByteArray), .bool false, .int .i64 0, .int .i64 0, .bool false] 58 (0, 0)) (by (with_reducible repeat (first | refine blk_drewN ?_ _ | refine blk_drew ?_ | refine blk_alloc ?_ _)); exact BK399.out) hb)
                    have n2_ := Aside0.mk (blk_below (g := gb400) (o := .cells #[.int .i64 x401000_1, .string x401001_1, .bool x401002_1, .int .i64 x401003_1, .int .i64 x401004_1, .bool true] 58 (0, 0)) (by (with_reducible repeat (first | refine blk_drewN ?_ _ | refine blk_drew ?_ | refine blk_alloc ?_ _)); exact BK400.out) hb)
                    have n3_ := Aside0.mk (below_step (by repeat (first | (with_reducible first | exact HB.out | apply below_alloc | apply pw_below_drewN | apply below_drew1 | refine below_set ?_ GE399.out | refine below_set ?_ GE400.out) | exact HB.out)) hb)
                    have n4_ := Aside0.mk (hbox)
                    have n5_ := Aside0.mk ((by rw [hg]; exact (below_size (by repeat (first | (with_reducible first | exact HB.out | apply below_alloc | apply pw_below_drewN | apply below_drew1 | refine below_set ?_ GE399.out | refine below_set ?_ GE400.out) | exact HB.out))) : w.heap.size ≤ gb408))
                    have n6_ := Aside0.mk ((by rw [hg]; exact (below_size (by repeat (first | (with_reducible first | exact HB.out | apply below_alloc | apply pw_below_drewN | apply below_drew1 | refine below_set ?_ GE399.out | refine below_set ?_ GE400.out) | exact HB.out))) : w.heap.size ≤ gb408))
                    have n7_ := Aside0.mk ((by rw [hg]; exact Nat.ne_of_lt (blk_lt (g := gb399) (o := .cells #[.int .i64 0, .string (⟨#[]⟩ : ByteArray), .bool false, .int .i64 0, .int .i64 0, .bool false] 58 (0, 0)) (by (with_reducible repeat (first | refine blk_drewN ?_ _ | refine blk_drew ?_ | refine blk_alloc ?_ _)); exact BK399.out)) : gb399 ≠ gb408))
                    have n8_ := Aside0.mk ((by rw [hg]; exact Nat.ne_of_gt (blk_lt (g := gb399) (o := .cells #[.int .i64 0, .string (⟨#[]⟩ : ByteArray), .bool false, .int .i64 0, .int .i64 0, .bool false] 58 (0, 0)) (by (with_reducible repeat (first | refine blk_drewN ?_ _ | refine blk_drew ?_ | refine blk_alloc ?_ _)); exact BK399.out)) : gb408 ≠ gb399))
                    have n9_ := Aside0.mk ((by rw [hg]; exact Nat.ne_of_lt (blk_lt (g := gb400) (o := .cells #[.int .i64 x401000_1, .string x401001_1, .bool x401002_1, .int .i64 x401003_1, .int .i64 x401004_1, .bool true] 58 (0, 0)) (by (with_reducible repeat (first | refine blk_drewN ?_ _ | refine blk_drew ?_ | refine blk_alloc ?_ _)); exact BK400.out)) : gb400 ≠ gb408))
                    have n10_ := Aside0.mk ((by rw [hg]; exact Nat.ne_of_gt (blk_lt (g := gb400) (o := .cells #[.int .i64 x401000_1, .string x401001_1, .bool x401002_1, .int .i64 x401003_1, .int .i64 x401004_1, .bool true] 58 (0, 0)) (by (with_reducible repeat (first | refine blk_drewN ?_ _ | refine blk_drew ?_ | refine blk_alloc ?_ _)); exact BK400.out)) : gb408 ≠ gb400))
                    clear HO406
                    clear BK399
                    clear BK400
                    clear HB
                    have HO406 := n0_
                    have BK399 := n1_
                    have BK400 := n2_
                    have HB := n3_
                    have BK408 := n4_
                    have GW408 := n5_
                    have GE408 := n6_
                    have NB399_408 := n7_
                    have NB408_399 := n8_
                    have NB400_408 := n9_
                    have NB408_400 := n10_
                    clear n0_ n1_ n2_ n3_ n4_ n5_ n6_ n7_ n8_ n9_ n10_
                    clear hb hbox hg
                    refine hK.out _ _ ⟨(blk_cell BK400.out 0).trans rfl, (blk_cell BK400.out 1).trans rfl, (blk_cell BK400.out 2).trans rfl, (blk_cell BK400.out 3).trans rfl, (blk_cell BK400.out 4).trans rfl, (blk_cell BK400.out 5).trans rfl, ((HB.out.cell (World.block_lt_of_cell? w _ hw401_0)).trans hw401_0), ((HB.out.cell (World.block_lt_of_cell? w _ hw401_1)).trans hw401_1), ((HB.out.cell (World.block_lt_of_cell? w _ hw401_2)).trans hw401_2)⟩ (fun hHeld => ?_)
                    clear hK K
                    refine norm_ (a' := ?_) ?_ ?_
                    rotate_left
                    · show Act.put _ (some 7) _ = _
                      simp only [Act.put, List.setIfInBounds_toArray, List.set_cons_zero, List.set_cons_succ]
                      rfl
                    exact norm_ (by simp only [putAll, Act.put, List.setIfInBounds_toArray, List.set_cons_zero, List.set_cons_succ]) (hCont (v405, gb408) _ ⟨hHeld, (by (with_reducible repeat (first | apply Kd.R_alloc | apply Kd.R_drewN | apply Kd.R_drew)); exact HO406.out), (by (with_reducible repeat (first | refine blk_drewN ?_ _ | refine blk_drew ?_ | refine blk_alloc ?_ _)); exact BK399.out), (by (with_reducible repeat (first | refine blk_drewN ?_ _ | refine blk_drew ?_ | refine blk_alloc ?_ _)); exact BK400.out), (by (with_reducible repeat (first | refine blk_drewN ?_ _ | refine blk_drew ?_ | refine blk_alloc ?_ _)); exact BK408.out), GW408.out, GE408.out, NB399_408.out, NB408_399.out, NB400_408.out, NB408_400.out, (by repeat (first | (with_reducible first | exact HB.out | apply below_alloc | apply pw_below_drewN | apply below_drew1 | refine below_set ?_ GE399.out | refine below_set ?_ GE400.out | refine below_set ?_ GE408.out) | exact HB.out))⟩)
                  · skip
                    refine box_step ?hg (N := 7) ?hd (cs := #[.int .i64 0, .string (⟨#[]⟩ : ByteArray)]) (t := 45) ?hr ?_; (case hd => rfl); (case hg => rfl); (case hr => first | (go_simp; done) | (go_simp; rfl))
                    intro gb408 hg w86 hbox hb
                    have n0_ := Aside0.mk (blk_below (g := gb399) (o := .cells #[.int .i64 0, .string (⟨#[]⟩ : ByteArray), .bool false, .int .i64 0, .int .i64 0, .bool false] 58 (0, 0)) (by (with_reducible repeat (first | refine blk_drewN ?_ _ | refine blk_drew ?_ | refine blk_alloc ?_ _)); exact BK399.out) hb)
                    have n1_ := Aside0.mk (blk_below (g := gb400) (o := .cells #[.int .i64 x401000_1, .string x401001_1, .bool x401002_1, .int .i64 x401003_1, .int .i64 x401004_1, .bool true] 58 (0, 0)) (by (with_reducible repeat (first | refine blk_drewN ?_ _ | refine blk_drew ?_ | refine blk_alloc ?_ _)); exact BK400.out) hb)
                    have n2_ := Aside0.mk (below_step (by repeat (first | (with_reducible first | exact HB.out | apply below_alloc | apply pw_below_drewN | apply below_drew1 | refine below_set ?_ GE399.out | refine below_set ?_ GE400.out) | exact HB.out)) hb)
                    have n3_ := Aside0.mk (hbox)
                    have n4_ := Aside0.mk ((by rw [hg]; exact (below_size (by repeat (first | (with_reducible first | exact HB.out | apply below_alloc | apply pw_below_drewN | apply below_drew1 | refine below_set ?_ GE399.out | refine below_set ?_ GE400.out) | exact HB.out))) : w.heap.size ≤ gb408))
                    have n5_ := Aside0.mk ((by rw [hg]; exact (below_size (by repeat (first | (with_reducible first | exact HB.out | apply below_alloc | apply pw_below_drewN | apply below_drew1 | refine below_set ?_ GE399.out | refine below_set ?_ GE400.out) | exact HB.out))) : w.heap.size ≤ gb408))
                    have n6_ := Aside0.mk ((by rw [hg]; exact Nat.ne_of_lt (blk_lt (g := gb399) (o := .cells #[.int .i64 0, .string (⟨#[]⟩ : ByteArray), .bool false, .int .i64 0, .int .i64 0, .bool false] 58 (0, 0)) (by (with_reducible repeat (first | refine blk_drewN ?_ _ | refine blk_drew ?_ | refine blk_alloc ?_ _)); exact BK399.out)) : gb399 ≠ gb408))
                    have n7_ := Aside0.mk ((by rw [hg]; exact Nat.ne_of_gt (blk_lt (g := gb399) (o := .cells #[.int .i64 0, .string (⟨#[]⟩ : ByteArray), .bool false, .int .i64 0, .int .i64 0, .bool false] 58 (0, 0)) (by (with_reducible repeat (first | refine blk_drewN ?_ _ | refine blk_drew ?_ | refine blk_alloc ?_ _)); exact BK399.out)) : gb408 ≠ gb399))
                    have n8_ := Aside0.mk ((by rw [hg]; exact Nat.ne_of_lt (blk_lt (g := gb400) (o := .cells #[.int .i64 x401000_1, .string x401001_1, .bool x401002_1, .int .i64 x401003_1, .int .i64 x401004_1, .bool true] 58 (0, 0)) (by (with_reducible repeat (first | refine blk_drewN ?_ _ | refine blk_drew ?_ | refine blk_alloc ?_ _)); exact BK400.out)) : gb400 ≠ gb408))
                    have n9_ := Aside0.mk ((by rw [hg]; exact Nat.ne_of_gt (blk_lt (g := gb400) (o := .cells #[.int .i64 x401000_1, .string x401001_1, .bool x401002_1, .int .i64 x401003_1, .int .i64 x401004_1, .bool true] 58 (0, 0)) (by (with_reducible repeat (first | refine blk_drewN ?_ _ | refine blk_drew ?_ | refine blk_alloc ?_ _)); exact BK400.out)) : gb408 ≠ gb400))
                    clear BK399
                    clear BK400
                    clear HB
                    have BK399 := n0_
                    have BK400 := n1_
                    have HB := n2_
                    have BK408 := n3_
                    have GW408 := n4_
                    have GE408 := n5_
                    have NB399_408 := n6_
                    have NB408_399 := n7_
                    have NB400_408 := n8_
                    have NB408_400 := n9_
                    clear n0_ n1_ n2_ n3_ n4_ n5_ n6_ n7_ n8_ n9_
                    clear hb hbox hg
                    refine hK.out _ _ ⟨(blk_cell BK400.out 0).trans rfl, (blk_cell BK400.out 1).trans rfl, (blk_cell BK400.out 2).trans rfl, (blk_cell BK400.out 3).trans rfl, (blk_cell BK400.out 4).trans rfl, (blk_cell BK400.out 5).trans rfl, ((HB.out.cell (World.block_lt_of_cell? w _ hw401_0)).trans hw401_0), ((HB.out.cell (World.block_lt_of_cell? w _ hw401_1)).trans hw401_1), ((HB.out.cell (World.block_lt_of_cell? w _ hw401_2)).trans hw401_2)⟩ (fun hHeld => ?_)
                    clear hK K
                    refine norm_ (a' := ?_) ?_ ?_
                    rotate_left
                    · show Act.put _ (some 7) _ = _
                      simp only [Act.put, List.setIfInBounds_toArray, List.set_cons_zero, List.set_cons_succ]
                      rfl
                    refine one_ (i := 7) (N := some 26) #[true, true, true, true, true, true, true, true, false, false, false, false, true, false, false, false] rfl rfl (one_of HT_.out (by kernel_rfl)) (by decide) (fun K hK => ?_)
                    refine goes_ Tryd.func24 (by kernel_rfl) rfl #[.agg #[.int .i64 x401000_1, .string x401001_1], .slice A0 l0.length c0, .agg #[.int .i64 ((rd_T47 l1 x6_1).f0), .int .i64 ((rd_T47 l1 x6_1).f1), .int .u8 ((rd_T47 l1 x6_1).f2)]] (by rfl) rfl rfl (by (try simp only [List.map_toArray, List.map_cons, List.map_nil]); first | done | rfl | (simp only [List.length_drop, List.length_take]; rfl)) ?_
                    with_reducible refine (origin_Step.calls k1 x401000_1 x401001_1 _ _ l0 ((rd_T47 l1 x6_1).f0) ((rd_T47 l1 x6_1).f1) ((rd_T47 l1 x6_1).f2) t402 t403 t404 t407 _ ?side1 ?side2 A9.out).mono ?_
                    (case side1 => repeat (first | exact (Kd.C_below HR0.out HB.out) | (with_reducible refine Kd.C_alloc ?_ _) | (with_reducible refine Kd.C_drewN ?_ _) | (with_reducible refine Kd.C_drew ?_)))
                    (case side2 => exact HC0.out)
                    rintro e w87 ⟨v405, rfl, ho0, hb⟩
                    refine ⟨_, rfl, ?_⟩
                    have n0_ := Aside0.mk (Kd.R_lower ho0 (below_size (by repeat (first | (with_reducible first | exact HB.out | apply below_alloc | apply pw_below_drewN | apply below_drew1 | refine below_set ?_ GE399.out | refine below_set ?_ GE400.out | refine below_set ?_ GE408.out) | exact HB.out))))
                    have n1_ := Aside0.mk (blk_below (g := gb399) (o := .cells #[.int .i64 0, .string (⟨#[]⟩ : ByteArray), .bool false, .int .i64 0, .int .i64 0, .bool false] 58 (0, 0)) (by (with_reducible repeat (first | refine blk_drewN ?_ _ | refine blk_drew ?_ | refine blk_alloc ?_ _)); exact BK399.out) hb)
                    have n2_ := Aside0.mk (blk_below (g := gb400) (o := .cells #[.int .i64 x401000_1, .string x401001_1, .bool x401002_1, .int .i64 x401003_1, .int .i64 x401004_1, .bool true] 58 (0, 0)) (by (with_reducible repeat (first | refine blk_drewN ?_ _ | refine blk_drew ?_ | refine blk_alloc ?_ _)); exact BK400.out) hb)
                    have n3_ := Aside0.mk (blk_below (g := gb408) (o := .cells #[.int .i64 0, .string (⟨#[]⟩ : ByteArray)] 45 (0, 0)) (by (with_reducible repeat (first | refine blk_drewN ?_ _ | refine blk_drew ?_ | refine blk_alloc ?_ _)); exact BK408.out) hb)
                    have n4_ := Aside0.mk (below_step (by repeat (first | (with_reducible first | exact HB.out | apply below_alloc | apply pw_below_drewN | apply below_drew1 | refine below_set ?_ GE399.out | refine below_set ?_ GE400.out | refine below_set ?_ GE408.out) | exact HB.out)) hb)
                    clear BK399
                    clear BK400
                    clear BK408
                    clear HB
                    have HO406 := n0_
                    have BK399 := n1_
                    have BK400 := n2_
                    have BK408 := n3_
                    have HB := n4_
                    clear n0_ n1_ n2_ n3_ n4_
                    (try clear hb)
                    (try clear hb2)
                    (try clear hk)
                    (try clear hi)
                    (try clear ho0)
                    refine hK.out _ _ ⟨(blk_cell BK400.out 0).trans rfl, (blk_cell BK400.out 1).trans rfl, (blk_cell BK400.out 2).trans rfl, (blk_cell BK400.out 3).trans rfl, (blk_cell BK400.out 4).trans rfl, (blk_cell BK400.out 5).trans rfl, ((HB.out.cell (World.block_lt_of_cell? w _ hw401_0)).trans hw401_0), ((HB.out.cell (World.block_lt_of_cell? w _ hw401_1)).trans hw401_1), ((HB.out.cell (World.block_lt_of_cell? w _ hw401_2)).trans hw401_2)⟩ (fun hHeld => ?_)
                    clear hK K
                    refine norm_ (a' := ?_) ?_ ?_
                    rotate_left
                    · show Act.put _ (some 26) _ = _
                      simp only [Act.put, List.setIfInBounds_toArray, List.set_cons_zero, List.set_cons_succ]
                      rfl
                    refine pure_ (i := 8) (N := some 18) (v := ?_) (a' := ?_) #[true, true, true, true, true, true, true, true, true, false, false, false, true, false, false, false] rfl rfl (any_of HT_.out (by kernel_rfl)) (fun _ _ _ h => h) (Or.inl ⟨by rfl, ?_⟩) ?_ ?_
                    rotate_left
                    · intro w'
                      go_simp
                      with_reducible rfl
                    rotate_left
                    · simp only [Act.put, List.setIfInBounds_toArray, List.set_cons_zero, List.set_cons_succ]
                      rfl
                    refine pure_ (i := 9) (N := some 27) (v := ?_) (a' := ?_) #[true, true, true, true, true, true, true, true, true, true, false, false, true, false, false, false] rfl rfl (any_of HT_.out (by kernel_rfl)) (fun _ _ _ h => h) (Or.inl ⟨by rfl, ?_⟩) ?_ ?_
                    rotate_left
                    · intro w'
                      go_simp
                      with_reducible rfl
                    rotate_left
                    · simp only [Act.put, List.setIfInBounds_toArray, List.set_cons_zero, List.set_cons_succ]
                      rfl
                    refine pure_ (i := 10) (N := some 28) (v := ?_) (a' := ?_) #[true, true, true, true, true, true, true, true, true, true, true, false, true, false, false, false] rfl rfl (any_of HT_.out (by kernel_rfl)) (fun _ _ _ h => h) (Or.inl ⟨by rfl, ?_⟩) ?_ ?_
                    rotate_left
                    · intro w'
                      go_simp
                      with_reducible rfl
                    rotate_left
                    · simp only [Act.put, List.setIfInBounds_toArray, List.set_cons_zero, List.set_cons_succ]
                      rfl
                    refine pure_ (i := 11) (N := some 29) (v := ?_) (a' := ?_) #[true, true, true, true, true, true, true, true, true, true, true, true, true, false, false, false] rfl rfl (any_of HT_.out (by kernel_rfl)) (fun _ _ _ h => h) (Or.inl ⟨by rfl, ?_⟩) ?_ ?_
                    rotate_left
                    · intro w'
                      go_simp
                      with_reducible rfl
                    rotate_left
                    · simp only [Act.put, List.setIfInBounds_toArray, List.set_cons_zero, List.set_cons_succ]
                      rfl
                    exact norm_ (by simp only [putAll, Act.put, List.setIfInBounds_toArray, List.set_cons_zero, List.set_cons_succ]) (hCont (v405, gb408) _ ⟨hHeld, (by (with_reducible repeat (first | apply Kd.R_alloc | apply Kd.R_drewN | apply Kd.R_drew)); exact HO406.out), (by (with_reducible repeat (first | refine blk_drewN ?_ _ | refine blk_drew ?_ | refine blk_alloc ?_ _)); exact BK399.out), (by (with_reducible repeat (first | refine blk_drewN ?_ _ | refine blk_drew ?_ | refine blk_alloc ?_ _)); exact BK400.out), (by (with_reducible repeat (first | refine blk_drewN ?_ _ | refine blk_drew ?_ | refine blk_alloc ?_ _)); exact BK408.out), GW408.out, GE408.out, NB399_408.out, NB408_399.out, NB400_408.out, NB408_400.out, (by repeat (first | (with_reducible first | exact HB.out | apply below_alloc | apply pw_below_drewN | apply below_drew1 | refine below_set ?_ GE399.out | refine below_set ?_ GE400.out | refine below_set ?_ GE408.out) | exact HB.out))⟩)
                rintro ⟨v405, gb408⟩ w88 ⟨hS_, h0_, h1_, h2_, h3_, h4_, h5_, h6_, h7_, h8_, h9_, h10_⟩
                have n0_ : Aside0 (Kd.R k62 62 w88 w.heap.size (fun _ => True) v405 t404) := ⟨h0_⟩
                have n1_ : Aside0 (w88.heap[gb399]? = some (.cells #[.int .i64 0, .string (⟨#[]⟩ : ByteArray), .bool false, .int .i64 0, .int .i64 0, .bool false] 58 (0, 0))) := ⟨h1_⟩
                have n2_ : Aside0 (w88.heap[gb400]? = some (.cells #[.int .i64 x401000_1, .string x401001_1, .bool x401002_1, .int .i64 x401003_1, .int .i64 x401004_1, .bool true] 58 (0, 0))) := ⟨h2_⟩
                have n3_ : Aside0 (w88.heap[gb408]? = some (.cells #[.int .i64 0, .string (⟨#[]⟩ : ByteArray)] 45 (0, 0))) := ⟨h3_⟩
                have n4_ : Aside0 (w.heap.size ≤ gb408) := ⟨h4_⟩
                have n5_ : Aside0 (w.heap.size ≤ gb408) := ⟨h5_⟩
                have n6_ : Aside0 (gb399 ≠ gb408) := ⟨h6_⟩
                have n7_ : Aside0 (gb408 ≠ gb399) := ⟨h7_⟩
                have n8_ : Aside0 (gb400 ≠ gb408) := ⟨h8_⟩
                have n9_ : Aside0 (gb408 ≠ gb400) := ⟨h9_⟩
                have n10_ : Aside0 (Below w.heap.size w w88) := ⟨h10_⟩
                clear BK399
                clear BK400
                clear HB
                clear h0_ h1_ h2_ h3_ h4_ h5_ h6_ h7_ h8_ h9_ h10_
                have HO406 := n0_
                have BK399 := n1_
                have BK400 := n2_
                have BK408 := n3_
                have GW408 := n4_
                have GE408 := n5_
                have NB399_408 := n6_
                have NB408_399 := n7_
                have NB400_408 := n8_
                have NB408_400 := n9_
                have HB := n10_
                clear n0_ n1_ n2_ n3_ n4_ n5_ n6_ n7_ n8_ n9_ n10_
                have hHeld : w88.cell? ⟨gb400, 0, none⟩ = some (.int .i64 x401000_1) ∧ w88.cell? ⟨gb400, 1, none⟩ = some (.string x401001_1) ∧ w88.cell? ⟨gb400, 2, none⟩ = some (.bool x401002_1) ∧ w88.cell? ⟨gb400, 3, none⟩ = some (.int .i64 x401003_1) ∧ w88.cell? ⟨gb400, 4, none⟩ = some (.int .i64 x401004_1) ∧ w88.cell? ⟨gb400, 5, none⟩ = some (.bool true) ∧ w88.cell? (ad401.add ((x6_1).toNat * 3)) = some (.int .i64 ((rd_T47 l1 x6_1).f0)) ∧ w88.cell? ⟨(ad401.add ((x6_1).toNat * 3)).block, (ad401.add ((x6_1).toNat * 3)).off + 1, none⟩ = some (.int .i64 ((rd_T47 l1 x6_1).f1)) ∧ w88.cell? ⟨(ad401.add ((x6_1).toNat * 3)).block, (ad401.add ((x6_1).toNat * 3)).off + 2, none⟩ = some (.int .u8 ((rd_T47 l1 x6_1).f2)) := hS_
                refine norm_ (a' := ?_) ?_ ?_
                rotate_left
                · simp only [putAll, Act.put, List.setIfInBounds_toArray, List.set_cons_zero, List.set_cons_succ]
                  rfl
                refine one_ (i := 13) (N := none) #[true, true, true, true, true, true, true, true, true, true, true, true, true, true, false, false] rfl rfl (one_of HT_.out (by kernel_rfl)) (by decide) (fun K hK => ?_)
                have hs89 : w88.cell? ⟨gb408, 0, none⟩ = some (.int .i64 0) := (blk_cell BK408.out 0).trans rfl
                have hfs89 := blk_frozen BK408.out 0
                have hns89_0 := NB399_408.out
                have hns89_1 := NB400_408.out
                have hms89_0 := NB408_399.out
                have hms89_1 := NB408_400.out
                have hs90 : w88.cell? ⟨gb408, 1, none⟩ = some (.string (⟨#[]⟩ : ByteArray)) := (blk_cell BK408.out 1).trans rfl
                have hfs90 := blk_frozen BK408.out 1
                have hns90_0 := NB399_408.out
                have hns90_1 := NB400_408.out
                have hms90_0 := NB408_399.out
                have hms90_1 := NB408_400.out
                refine skip_ (w1 := ?_) (by rfl) rfl ?_ ?_
                rotate_left
                · go_simp
                  rfl
                refine hK.out _ _ ⟨((cell_far (p := ⟨gb408, _, none⟩) NB400_408.out _).trans (((cell_far (p := ⟨gb408, _, none⟩) NB400_408.out _).trans (hHeld.1)))), ((cell_far (p := ⟨gb408, _, none⟩) NB400_408.out _).trans (((cell_far (p := ⟨gb408, _, none⟩) NB400_408.out _).trans (hHeld.2.1)))), ((cell_far (p := ⟨gb408, _, none⟩) NB400_408.out _).trans (((cell_far (p := ⟨gb408, _, none⟩) NB400_408.out _).trans (hHeld.2.2.1)))), ((cell_far (p := ⟨gb408, _, none⟩) NB400_408.out _).trans (((cell_far (p := ⟨gb408, _, none⟩) NB400_408.out _).trans (hHeld.2.2.2.1)))), ((cell_far (p := ⟨gb408, _, none⟩) NB400_408.out _).trans (((cell_far (p := ⟨gb408, _, none⟩) NB400_408.out _).trans (hHeld.2.2.2.2.1)))), ((cell_far (p := ⟨gb408, _, none⟩) NB400_408.out _).trans (((cell_far (p := ⟨gb408, _, none⟩) NB400_408.out _).trans (hHeld.2.2.2.2.2.1)))), ((cell_far (p := ⟨gb408, _, none⟩) (by first | exact Nat.ne_of_lt (Nat.lt_of_lt_of_le (by have := World.block_lt_of_cell? _ _ hw401_0; first | rwa [add_block] at this | exact this) GW408.out) | (rw [add_block]; exact Nat.ne_of_lt (Nat.lt_of_lt_of_le (by have := World.block_lt_of_cell? _ _ hw401_0; first | rwa [add_block] at this | exact this) GW408.out)) | (show (Addr.add _ _).block ≠ _; rw [add_block]; exact Nat.ne_of_lt (Nat.lt_of_lt_of_le (by have := World.block_lt_of_cell? _ _ hw401_0; first | rwa [add_block] at this | exact this) GW408.out)) | (dsimp only; exact Nat.ne_of_lt (Nat.lt_of_lt_of_le (by have := World.block_lt_of_cell? _ _ hw401_0; first | rwa [add_block] at this | exact this) GW408.out))) _).trans (((cell_far (p := ⟨gb408, _, none⟩) (by first | exact Nat.ne_of_lt (Nat.lt_of_lt_of_le (by have := World.block_lt_of_cell? _ _ hw401_0; first | rwa [add_block] at this | exact this) GW408.out) | (rw [add_block]; exact Nat.ne_of_lt (Nat.lt_of_lt_of_le (by have := World.block_lt_of_cell? _ _ hw401_0; first | rwa [add_block] at this | exact this) GW408.out)) | (show (Addr.add _ _).block ≠ _; rw [add_block]; exact Nat.ne_of_lt (Nat.lt_of_lt_of_le (by have := World.block_lt_of_cell? _ _ hw401_0; first | rwa [add_block] at this | exact this) GW408.out)) | (dsimp only; exact Nat.ne_of_lt (Nat.lt_of_lt_of_le (by have := World.block_lt_of_cell? _ _ hw401_0; first | rwa [add_block] at this | exact this) GW408.out))) _).trans (hHeld.2.2.2.2.2.2.1)))), ((cell_far (p := ⟨gb408, _, none⟩) (by first | exact Nat.ne_of_lt (Nat.lt_of_lt_of_le (by have := World.block_lt_of_cell? _ _ hw401_1; first | rwa [add_block] at this | exact this) GW408.out) | (rw [add_block]; exact Nat.ne_of_lt (Nat.lt_of_lt_of_le (by have := World.block_lt_of_cell? _ _ hw401_1; first | rwa [add_block] at this | exact this) GW408.out)) | (show (Addr.add _ _).block ≠ _; rw [add_block]; exact Nat.ne_of_lt (Nat.lt_of_lt_of_le (by have := World.block_lt_of_cell? _ _ hw401_1; first | rwa [add_block] at this | exact this) GW408.out)) | (dsimp only; exact Nat.ne_of_lt (Nat.lt_of_lt_of_le (by have := World.block_lt_of_cell? _ _ hw401_1; first | rwa [add_block] at this | exact this) GW408.out))) _).trans (((cell_far (p := ⟨gb408, _, none⟩) (by first | exact Nat.ne_of_lt (Nat.lt_of_lt_of_le (by have := World.block_lt_of_cell? _ _ hw401_1; first | rwa [add_block] at this | exact this) GW408.out) | (rw [add_block]; exact Nat.ne_of_lt (Nat.lt_of_lt_of_le (by have := World.block_lt_of_cell? _ _ hw401_1; first | rwa [add_block] at this | exact this) GW408.out)) | (show (Addr.add _ _).block ≠ _; rw [add_block]; exact Nat.ne_of_lt (Nat.lt_of_lt_of_le (by have := World.block_lt_of_cell? _ _ hw401_1; first | rwa [add_block] at this | exact this) GW408.out)) | (dsimp only; exact Nat.ne_of_lt (Nat.lt_of_lt_of_le (by have := World.block_lt_of_cell? _ _ hw401_1; first | rwa [add_block] at this | exact this) GW408.out))) _).trans (hHeld.2.2.2.2.2.2.2.1)))), ((cell_far (p := ⟨gb408, _, none⟩) (by first | exact Nat.ne_of_lt (Nat.lt_of_lt_of_le (by have := World.block_lt_of_cell? _ _ hw401_2; first | rwa [add_block] at this | exact this) GW408.out) | (rw [add_block]; exact Nat.ne_of_lt (Nat.lt_of_lt_of_le (by have := World.block_lt_of_cell? _ _ hw401_2; first | rwa [add_block] at this | exact this) GW408.out)) | (show (Addr.add _ _).block ≠ _; rw [add_block]; exact Nat.ne_of_lt (Nat.lt_of_lt_of_le (by have := World.block_lt_of_cell? _ _ hw401_2; first | rwa [add_block] at this | exact this) GW408.out)) | (dsimp only; exact Nat.ne_of_lt (Nat.lt_of_lt_of_le (by have := World.block_lt_of_cell? _ _ hw401_2; first | rwa [add_block] at this | exact this) GW408.out))) _).trans (((cell_far (p := ⟨gb408, _, none⟩) (by first | exact Nat.ne_of_lt (Nat.lt_of_lt_of_le (by have := World.block_lt_of_cell? _ _ hw401_2; first | rwa [add_block] at this | exact this) GW408.out) | (rw [add_block]; exact Nat.ne_of_lt (Nat.lt_of_lt_of_le (by have := World.block_lt_of_cell? _ _ hw401_2; first | rwa [add_block] at this | exact this) GW408.out)) | (show (Addr.add _ _).block ≠ _; rw [add_block]; exact Nat.ne_of_lt (Nat.lt_of_lt_of_le (by have := World.block_lt_of_cell? _ _ hw401_2; first | rwa [add_block] at this | exact this) GW408.out)) | (dsimp only; exact Nat.ne_of_lt (Nat.lt_of_lt_of_le (by have := World.block_lt_of_cell? _ _ hw401_2; first | rwa [add_block] at this | exact this) GW408.out))) _).trans (hHeld.2.2.2.2.2.2.2.2))))⟩ (fun hHeld => ?_)
                clear hK K
                refine pure_ (i := 14) (N := some 8) (v := ?_) (a' := ?_) #[true, true, true, true, true, true, true, true, true, true, true, true, true, true, true, false] rfl rfl (any_of HT_.out (by kernel_rfl)) (fun _ _ _ h => h) (Or.inl ⟨by rfl, ?_⟩) ?_ ?_
                rotate_left
                · intro w'
                  go_simp
                  with_reducible rfl
                rotate_left
                · simp only [Act.put, List.setIfInBounds_toArray, List.set_cons_zero, List.set_cons_succ]
                  rfl
                refine pure_ (i := 15) (N := some 9) (v := ?_) (a' := ?_) #[true, true, true, true, true, true, true, true, true, true, true, true, true, true, true, true] rfl rfl (any_of HT_.out (by kernel_rfl)) (fun _ _ _ h => h) (Or.inl ⟨by rfl, ?_⟩) ?_ ?_
                rotate_left
                · intro w'
                  go_simp
                  with_reducible rfl
                rotate_left
                · simp only [Act.put, List.setIfInBounds_toArray, List.set_cons_zero, List.set_cons_succ]
                  rfl
                refine done_ (done_of HT_.out (by kernel_rfl)) ?_
                have hnb91 := NB400_399.out
                have hnc91 := NB399_400.out
                have hnb92 := NB400_408.out
                have hnc92 := NB408_400.out
                have hcz93_0 : w88.cell? ⟨gb400, 0, none⟩ = some (.int .i64 x401000_1) := (blk_cell BK400.out 0).trans rfl
                have hcz93_1 : w88.cell? ⟨gb400, 1, none⟩ = some (.string x401001_1) := (blk_cell BK400.out 1).trans rfl
                have hcz93_2 : w88.cell? ⟨gb400, 2, none⟩ = some (.bool x401002_1) := (blk_cell BK400.out 2).trans rfl
                have hcz93_3 : w88.cell? ⟨gb400, 3, none⟩ = some (.int .i64 x401003_1) := (blk_cell BK400.out 3).trans rfl
                have hcz93_4 : w88.cell? ⟨gb400, 4, none⟩ = some (.int .i64 x401004_1) := (blk_cell BK400.out 4).trans rfl
                have hcz93_5 : w88.cell? ⟨gb400, 5, none⟩ = some (.bool true) := (blk_cell BK400.out 5).trans rfl
                have hfz93_0 := blk_frozen BK400.out 0
                have hfz93_1 := blk_frozen BK400.out 1
                have hfz93_2 := blk_frozen BK400.out 2
                have hfz93_3 := blk_frozen BK400.out 3
                have hfz93_4 := blk_frozen BK400.out 4
                have hfz93_5 := blk_frozen BK400.out 5
                obtain ⟨Ao94, co94, eo94⟩ := Kd.R_slice HO406.out
                subst eo94
                have hnb95 := NB408_399.out
                have hnc95 := NB399_408.out
                have hcz96_0 : w88.cell? ⟨gb408, 0, none⟩ = some (.int .i64 0) := (blk_cell BK408.out 0).trans rfl
                have hcz96_1 : w88.cell? ⟨gb408, 1, none⟩ = some (.string (⟨#[]⟩ : ByteArray)) := (blk_cell BK408.out 1).trans rfl
                have hfz96_0 := blk_frozen BK408.out 0
                have hfz96_1 := blk_frozen BK408.out 1
                try go_wp2
                go_roundg k1
                case measure => have := HK1.out; omega
                case rel => exact ⟨(wrap64 (x6_1 + 1)), (x401000_1), (x401001_1), (x401002_1), (x401003_1), (x401004_1), ((t402 == 0 && (t403.toList == ([] : List UInt8)))), (by first | rfl | (simp; done) | (simp [*]; done)), H', ⟨by have := HK1.out; omega⟩, ⟨by (with_reducible repeat (first | refine blk_drewN ?_ _ | refine blk_drew ?_ | refine blk_alloc ?_ _)); refine blk_far ?_ NB399_400.out _; (with_reducible repeat (first | refine blk_drewN ?_ _ | refine blk_drew ?_ | refine blk_alloc ?_ _)); refine blk_far ?_ NB399_408.out _; (with_reducible repeat (first | refine blk_drewN ?_ _ | refine blk_drew ?_ | refine blk_alloc ?_ _)); refine blk_far ?_ NB399_408.out _; (with_reducible repeat (first | refine blk_drewN ?_ _ | refine blk_drew ?_ | refine blk_alloc ?_ _)); exact BK399.out⟩, ⟨by (with_reducible repeat (first | refine blk_drewN ?_ _ | refine blk_drew ?_ | refine blk_alloc ?_ _)); refine blk_put (cs := #[.int .i64 x401000_1, .string x401001_1, .bool x401002_1, .int .i64 x401003_1, .int .i64 x401004_1, .bool true]) ?_ 5 _ (by first | rfl | (rw [isE_nil]; rfl)); (with_reducible repeat (first | refine blk_drewN ?_ _ | refine blk_drew ?_ | refine blk_alloc ?_ _)); refine blk_far ?_ NB400_408.out _; (with_reducible repeat (first | refine blk_drewN ?_ _ | refine blk_drew ?_ | refine blk_alloc ?_ _)); refine blk_far ?_ NB400_408.out _; (with_reducible repeat (first | refine blk_drewN ?_ _ | refine blk_drew ?_ | refine blk_alloc ?_ _)); exact BK400.out⟩, ⟨by repeat (first | (with_reducible first | exact HB.out | apply below_alloc | apply pw_below_drewN | apply below_drew1 | refine below_set ?_ GE399.out | refine below_set ?_ GE400.out | refine below_set ?_ GE408.out) | exact HB.out)⟩⟩
              · rw [if_neg c84] at H
                have c84b0 : ((t404.length : Int) == 0) = false := beq_eq_false_iff_ne.mpr c84
                have c84b1 : ((t404.length : Int) != 0) = true := bne_iff_ne.mpr c84
                have c84b2 : ¬ (t404 = []) := fun h_ => c84 (by rw [h_]; rfl)
                have H' := Aside0.mk H
                clear H
                try go_wp2
                have n0_ := Aside0.mk (blk_drew BK399.out)
                have n1_ := Aside0.mk (blk_drew BK400.out)
                have n2_ := Aside0.mk (below_drew1 HB.out)
                clear BK399
                clear BK400
                clear HB
                have BK399 := n0_
                have BK400 := n1_
                have HB := n2_
                clear n0_ n1_ n2_
                have p401 : 0 ≤ (x6_1 : Int) := of_decide_eq_true (by first | (with_reducible assumption) | assumption)
                have q401 : x6_1 < (l1.length : Int) := of_decide_eq_true (by first | (with_reducible assumption) | assumption)
                obtain ⟨ad401, e401, hx401_0, hx401_1, hx401_2⟩ := at_T47 HR1.out x6_1 p401 q401
                have hw401_2 := hx401_2
                have hw401_1 := hx401_1
                have hw401_0 := hx401_0
                cases e401
                replace hx401_0 := (HB.out.cell (World.block_lt_of_cell? w _ hx401_0)).trans hx401_0
                replace hx401_1 := (HB.out.cell (World.block_lt_of_cell? w _ hx401_1)).trans hx401_1
                replace hx401_2 := (HB.out.cell (World.block_lt_of_cell? w _ hx401_2)).trans hx401_2
                replace p401 := eq_true p401
                replace q401 := eq_true q401
                refine start_ (n := 16) (S := fun w' => w'.cell? ⟨gb400, 0, none⟩ = some (.int .i64 x401000_1) ∧ w'.cell? ⟨gb400, 1, none⟩ = some (.string x401001_1) ∧ w'.cell? ⟨gb400, 2, none⟩ = some (.bool x401002_1) ∧ w'.cell? ⟨gb400, 3, none⟩ = some (.int .i64 x401003_1) ∧ w'.cell? ⟨gb400, 4, none⟩ = some (.int .i64 x401004_1) ∧ w'.cell? ⟨gb400, 5, none⟩ = some (.bool true) ∧ w'.cell? (ad401.add ((x6_1).toNat * 3)) = some (.int .i64 ((rd_T47 l1 x6_1).f0)) ∧ w'.cell? ⟨(ad401.add ((x6_1).toNat * 3)).block, (ad401.add ((x6_1).toNat * 3)).off + 1, none⟩ = some (.int .i64 ((rd_T47 l1 x6_1).f1)) ∧ w'.cell? ⟨(ad401.add ((x6_1).toNat * 3)).block, (ad401.add ((x6_1).toNat * 3)).off + 2, none⟩ = some (.int .u8 ((rd_T47 l1 x6_1).f2))) (ds := []) #[false, false, false, false, false, false, false, false, false, false, false, false, false, false, false, false] (by kernel_rfl) rfl rfl ⟨(blk_cell BK400.out 0).trans rfl, (blk_cell BK400.out 1).trans rfl, (blk_cell BK400.out 2).trans rfl, (blk_cell BK400.out 3).trans rfl, (blk_cell BK400.out 4).trans rfl, (blk_cell BK400.out 5).trans rfl, ((HB.out.cell (World.block_lt_of_cell? w _ hw401_0)).trans hw401_0), ((HB.out.cell (World.block_lt_of_cell? w _ hw401_1)).trans hw401_1), ((HB.out.cell (World.block_lt_of_cell? w _ hw401_2)).trans hw401_2)⟩ (fun hHeld => ?_); refine with_tabW crossbarlaw16_run.tab5 crossbarlaw16_run.bits5 (fun HT_ HW_ => ?_)
                generalize wr.drew = w97 at BK399 BK400 HB hx401_0 hx401_1 hx401_2 hHeld ⊢
                refine pure_ (i := 0) (N := some 19) (v := ?_) (a' := ?_) #[true, false, false, false, false, false, false, false, false, false, false, false, false, false, false, false] rfl rfl (any_of HT_.out (by kernel_rfl)) (fun _ _ _ h => h) (Or.inl ⟨by rfl, ?_⟩) ?_ ?_
                rotate_left
                · intro w'
                  go_simp
                  with_reducible rfl
                rotate_left
                · simp only [Act.put, List.setIfInBounds_toArray, List.set_cons_zero, List.set_cons_succ]
                  rfl
                refine pure_ (i := 2) (N := some 21) (v := ?_) (a' := ?_) #[true, false, true, false, false, false, false, false, false, false, false, false, false, false, false, false] rfl rfl (any_of HT_.out (by kernel_rfl)) (fun _ _ _ h => h) (Or.inl ⟨by rfl, ?_⟩) ?_ ?_
                rotate_left
                · intro w'
                  go_simp
                  with_reducible rfl
                rotate_left
                · simp only [Act.put, List.setIfInBounds_toArray, List.set_cons_zero, List.set_cons_succ]
                  rfl
                refine pure_ (i := 3) (N := some 22) (v := ?_) (a' := ?_) #[true, false, true, true, false, false, false, false, false, false, false, false, false, false, false, false] rfl rfl (any_of HT_.out (by kernel_rfl)) (fun _ _ _ h => h) (Or.inl ⟨by rfl, ?_⟩) ?_ ?_
                rotate_left
                · intro w'
                  go_simp
                  with_reducible rfl
                rotate_left
                · simp only [Act.put, List.setIfInBounds_toArray, List.set_cons_zero, List.set_cons_succ]
                  rfl
                refine pure_ (i := 4) (N := some 23) (v := ?_) (a' := ?_) #[true, false, true, true, true, false, false, false, false, false, false, false, false, false, false, false] rfl rfl (any_of HT_.out (by kernel_rfl)) (fun _ _ _ h => h) (Or.inl ⟨by rfl, ?_⟩) ?_ ?_
                rotate_left
                · intro w'
                  go_simp
                  with_reducible rfl
                rotate_left
                · simp only [Act.put, List.setIfInBounds_toArray, List.set_cons_zero, List.set_cons_succ]
                  rfl
                refine pure_ (i := 5) (N := some 24) (v := ?_) (a' := ?_) #[true, false, true, true, true, true, false, false, false, false, false, false, false, false, false, false] rfl rfl (any_of HT_.out (by kernel_rfl)) (fun _ _ _ h => h) (Or.inl ⟨by rfl, ?_⟩) ?_ ?_
                rotate_left
                · intro w'
                  go_simp
                  with_reducible rfl
                rotate_left
                · simp only [Act.put, List.setIfInBounds_toArray, List.set_cons_zero, List.set_cons_succ]
                  rfl
                refine take_ (i := 1) (N := some 20) (v := ?_) (a' := ?_) #[true, true, true, true, true, true, false, false, false, false, false, false, false, false, false, false] rfl rfl (take_ofW HT_.out HW_.out (by kernel_rfl)) (fun _ _ _ h => h) (Or.inl ⟨by rfl, ?_⟩) hHeld ?_ ?_
                rotate_left
                · rintro w' ⟨s0, s1, s2, s3, s4, s5, s6, s7, s8⟩
                  go_simp
                  with_reducible rfl
                rotate_left
                · simp only [Act.put, List.setIfInBounds_toArray, List.set_cons_zero, List.set_cons_succ]
                  rfl
                refine take_ (i := 6) (N := some 25) (v := ?_) (a' := ?_) #[true, true, true, true, true, true, true, false, false, false, false, false, false, false, false, false] rfl rfl (take_ofW HT_.out HW_.out (by kernel_rfl)) (fun _ _ _ h => h) (Or.inl ⟨by rfl, ?_⟩) hHeld ?_ ?_
                rotate_left
                · rintro w' ⟨s0, s1, s2, s3, s4, s5, s6, s7, s8⟩
                  go_simp
                  with_reducible rfl
                rotate_left
                · simp only [Act.put, List.setIfInBounds_toArray, List.set_cons_zero, List.set_cons_succ]
                  rfl
                refine join_ (σ := Value × Nat) 3 #[true, true, true, true, true, true, true, true, true, true, true, true, true, false, false, false] (fun s_ => [(26, .tuple #[.agg #[.int .i64 t402, .string t403], s_.1, .int .i64 t407]), (7, .pointer (some ⟨s_.2, 0, none⟩)), (18, .tuple #[.agg #[.int .i64 t402, .string t403], s_.1, .int .i64 t407]), (27, .agg #[.int .i64 t402, .string t403]), (28, s_.1), (29, .int .i64 t407)]) (fun s_ w' => (w'.cell? ⟨gb400, 0, none⟩ = some (.int .i64 x401000_1) ∧ w'.cell? ⟨gb400, 1, none⟩ = some (.string x401001_1) ∧ w'.cell? ⟨gb400, 2, none⟩ = some (.bool x401002_1) ∧ w'.cell? ⟨gb400, 3, none⟩ = some (.int .i64 x401003_1) ∧ w'.cell? ⟨gb400, 4, none⟩ = some (.int .i64 x401004_1) ∧ w'.cell? ⟨gb400, 5, none⟩ = some (.bool true) ∧ w'.cell? (ad401.add ((x6_1).toNat * 3)) = some (.int .i64 ((rd_T47 l1 x6_1).f0)) ∧ w'.cell? ⟨(ad401.add ((x6_1).toNat * 3)).block, (ad401.add ((x6_1).toNat * 3)).off + 1, none⟩ = some (.int .i64 ((rd_T47 l1 x6_1).f1)) ∧ w'.cell? ⟨(ad401.add ((x6_1).toNat * 3)).block, (ad401.add ((x6_1).toNat * 3)).off + 2, none⟩ = some (.int .u8 ((rd_T47 l1 x6_1).f2))) ∧ (Kd.R k62 62 w' w.heap.size (fun _ => True) s_.1 t404) ∧ (w'.heap[gb399]? = some (.cells #[.int .i64 0, .string (⟨#[]⟩ : ByteArray), .bool false, .int .i64 0, .int .i64 0, .bool false] 58 (0, 0))) ∧ (w'.heap[gb400]? = some (.cells #[.int .i64 x401000_1, .string x401001_1, .bool x401002_1, .int .i64 x401003_1, .int .i64 x401004_1, .bool true] 58 (0, 0))) ∧ (w'.heap[s_.2]? = some (.cells #[.int .i64 0, .string (⟨#[]⟩ : ByteArray)] 45 (0, 0))) ∧ (w.heap.size ≤ s_.2) ∧ (w.heap.size ≤ s_.2) ∧ (gb399 ≠ s_.2) ∧ (s_.2 ≠ gb399) ∧ (gb400 ≠ s_.2) ∧ (s_.2 ≠ gb400) ∧ (Below w.heap.size w w')) ?_ ?_
                rotate_left
                · intro hCont
                  refine two_ (i := 7) (j := 12) (Ni := some 26) (Nj := some 7) #[true, true, true, true, true, true, true, true, false, false, false, false, false, false, false, false] #[true, true, true, true, true, true, true, false, false, false, false, false, true, false, false, false] rfl rfl rfl rfl (two_of HT_.out (by kernel_rfl)) (by decide) (by decide) (fun K hK => ?_) (fun K hK => ?_)
                  · skip
                    refine goes_ Tryd.func24 (by kernel_rfl) rfl #[.agg #[.int .i64 x401000_1, .string x401001_1], .slice A0 l0.length c0, .agg #[.int .i64 ((rd_T47 l1 x6_1).f0), .int .i64 ((rd_T47 l1 x6_1).f1), .int .u8 ((rd_T47 l1 x6_1).f2)]] (by rfl) rfl rfl (by (try simp only [List.map_toArray, List.map_cons, List.map_nil]); first | done | rfl | (simp only [List.length_drop, List.length_take]; rfl)) ?_
                    with_reducible refine (origin_Step.calls k1 x401000_1 x401001_1 _ _ l0 ((rd_T47 l1 x6_1).f0) ((rd_T47 l1 x6_1).f1) ((rd_T47 l1 x6_1).f2) t402 t403 t404 t407 _ ?side1 ?side2 A9.out).mono ?_
                    (case side1 => repeat (first | exact (Kd.C_below HR0.out HB.out) | (with_reducible refine Kd.C_alloc ?_ _) | (with_reducible refine Kd.C_drewN ?_ _) | (with_reducible refine Kd.C_drew ?_)))
                    (case side2 => exact HC0.out)
                    rintro e w98 ⟨v405, rfl, ho0, hb⟩
                    refine ⟨_, rfl, ?_⟩
                    have n0_ := Aside0.mk (Kd.R_lower ho0 (below_size (by repeat (first | (with_reducible first | exact HB.out | apply below_alloc | apply pw_below_drewN | apply below_drew1 | refine below_set ?_ GE399.out | refine below_set ?_ GE400.out) | exact HB.out))))
                    have n1_ := Aside0.mk (blk_below (g := gb399) (o := .cells #[.int .i64 0, .string (⟨#[]⟩ : ByteArray), .bool false, .int .i64 0, .int .i64 0, .bool false] 58 (0, 0)) (by (with_reducible repeat (first | refine blk_drewN ?_ _ | refine blk_drew ?_ | refine blk_alloc ?_ _)); exact BK399.out) hb)
                    have n2_ := Aside0.mk (blk_below (g := gb400) (o := .cells #[.int .i64 x401000_1, .string x401001_1, .bool x401002_1, .int .i64 x401003_1, .int .i64 x401004_1, .bool true] 58 (0, 0)) (by (with_reducible repeat (first | refine blk_drewN ?_ _ | refine blk_drew ?_ | refine blk_alloc ?_ _)); exact BK400.out) hb)
                    have n3_ := Aside0.mk (below_step (by repeat (first | (with_reducible first | exact HB.out | apply below_alloc | apply pw_below_drewN | apply below_drew1 | refine below_set ?_ GE399.out | refine below_set ?_ GE400.out) | exact HB.out)) hb)
                    clear BK399
                    clear BK400
                    clear HB
                    have HO406 := n0_
                    have BK399 := n1_
                    have BK400 := n2_
                    have HB := n3_
                    clear n0_ n1_ n2_ n3_
                    (try clear hb)
                    (try clear hb2)
                    (try clear hk)
                    (try clear hi)
                    (try clear ho0)
                    refine hK.out _ _ ⟨(blk_cell BK400.out 0).trans rfl, (blk_cell BK400.out 1).trans rfl, (blk_cell BK400.out 2).trans rfl, (blk_cell BK400.out 3).trans rfl, (blk_cell BK400.out 4).trans rfl, (blk_cell BK400.out 5).trans rfl, ((HB.out.cell (World.block_lt_of_cell? w _ hw401_0)).trans hw401_0), ((HB.out.cell (World.block_lt_of_cell? w _ hw401_1)).trans hw401_1), ((HB.out.cell (World.block_lt_of_cell? w _ hw401_2)).trans hw401_2)⟩ (fun hHeld => ?_)
                    clear hK K
                    refine norm_ (a' := ?_) ?_ ?_
                    rotate_left
                    · show Act.put _ (some 26) _ = _
                      simp only [Act.put, List.setIfInBounds_toArray, List.set_cons_zero, List.set_cons_succ]
                      rfl
                    refine pure_ (i := 8) (N := some 18) (v := ?_) (a' := ?_) #[true, true, true, true, true, true, true, true, true, false, false, false, false, false, false, false] rfl rfl (any_of HT_.out (by kernel_rfl)) (fun _ _ _ h => h) (Or.inl ⟨by rfl, ?_⟩) ?_ ?_
                    rotate_left
                    · intro w'
                      go_simp
                      with_reducible rfl
                    rotate_left
                    · simp only [Act.put, List.setIfInBounds_toArray, List.set_cons_zero, List.set_cons_succ]
                      rfl
                    refine pure_ (i := 9) (N := some 27) (v := ?_) (a' := ?_) #[true, true, true, true, true, true, true, true, true, true, false, false, false, false, false, false] rfl rfl (any_of HT_.out (by kernel_rfl)) (fun _ _ _ h => h) (Or.inl ⟨by rfl, ?_⟩) ?_ ?_
                    rotate_left
                    · intro w'
                      go_simp
                      with_reducible rfl
                    rotate_left
                    · simp only [Act.put, List.setIfInBounds_toArray, List.set_cons_zero, List.set_cons_succ]
                      rfl
                    refine pure_ (i := 10) (N := some 28) (v := ?_) (a' := ?_) #[true, true, true, true, true, true, true, true, true, true, true, false, false, false, false, false] rfl rfl (any_of HT_.out (by kernel_rfl)) (fun _ _ _ h => h) (Or.inl ⟨by rfl, ?_⟩) ?_ ?_
                    rotate_left
                    · intro w'
                      go_simp
                      with_reducible rfl
                    rotate_left
                    · simp only [Act.put, List.setIfInBounds_toArray, List.set_cons_zero, List.set_cons_succ]
                      rfl
                    refine pure_ (i := 11) (N := some 29) (v := ?_) (a' := ?_) #[true, true, true, true, true, true, true, true, true, true, true, true, false, false, false, false] rfl rfl (any_of HT_.out (by kernel_rfl)) (fun _ _ _ h => h) (Or.inl ⟨by rfl, ?_⟩) ?_ ?_
                    rotate_left
                    · intro w'
                      go_simp
                      with_reducible rfl
                    rotate_left
                    · simp only [Act.put, List.setIfInBounds_toArray, List.set_cons_zero, List.set_cons_succ]
                      rfl
                    refine one_ (i := 12) (N := some 7) #[true, true, true, true, true, true, true, true, true, true, true, true, true, false, false, false] rfl rfl (one_of HT_.out (by kernel_rfl)) (by decide) (fun K hK => ?_)
                    refine box_step ?hg (N := 7) ?hd (cs := #[.int .i64 0, .string (⟨#[]⟩ : ByteArray)]) (t := 45) ?hr ?_; (case hd => rfl); (case hg => rfl); (case hr => first | (go_simp; done) | (go_simp; rfl))
                    intro gb408 hg w99 hbox hb
                    have n0_ := Aside0.mk (Kd.R_below (by (with_reducible repeat (first | apply Kd.R_alloc | apply Kd.R_drewN | apply Kd.R_drew)); exact HO406.out) hb)
                    have n1_ := Aside0.mk (blk_below (g := gb399) (o := .cells #[.int .i64 0, .string (⟨#[]⟩ : ByteArray), .bool false, .int .i64 0, .int .i64 0, .bool false] 58 (0, 0)) (by (with_reducible repeat (first | refine blk_drewN ?_ _ | refine blk_drew ?_ | refine blk_alloc ?_ _)); exact BK399.out) hb)
                    have n2_ := Aside0.mk (blk_below (g := gb400) (o := .cells #[.int .i64 x401000_1, .string x401001_1, .bool x401002_1, .int .i64 x401003_1, .int .i64 x401004_1, .bool true] 58 (0, 0)) (by (with_reducible repeat (first | refine blk_drewN ?_ _ | refine blk_drew ?_ | refine blk_alloc ?_ _)); exact BK400.out) hb)
                    have n3_ := Aside0.mk (below_step (by repeat (first | (with_reducible first | exact HB.out | apply below_alloc | apply pw_below_drewN | apply below_drew1 | refine below_set ?_ GE399.out | refine below_set ?_ GE400.out) | exact HB.out)) hb)
                    have n4_ := Aside0.mk (hbox)
                    have n5_ := Aside0.mk ((by rw [hg]; exact (below_size (by repeat (first | (with_reducible first | exact HB.out | apply below_alloc | apply pw_below_drewN | apply below_drew1 | refine below_set ?_ GE399.out | refine below_set ?_ GE400.out) | exact HB.out))) : w.heap.size ≤ gb408))
                    have n6_ := Aside0.mk ((by rw [hg]; exact (below_size (by repeat (first | (with_reducible first | exact HB.out | apply below_alloc | apply pw_below_drewN | apply below_drew1 | refine below_set ?_ GE399.out | refine below_set ?_ GE400.out) | exact HB.out))) : w.heap.size ≤ gb408))
                    have n7_ := Aside0.mk ((by rw [hg]; exact Nat.ne_of_lt (blk_lt (g := gb399) (o := .cells #[.int .i64 0, .string (⟨#[]⟩ : ByteArray), .bool false, .int .i64 0, .int .i64 0, .bool false] 58 (0, 0)) (by (with_reducible repeat (first | refine blk_drewN ?_ _ | refine blk_drew ?_ | refine blk_alloc ?_ _)); exact BK399.out)) : gb399 ≠ gb408))
                    have n8_ := Aside0.mk ((by rw [hg]; exact Nat.ne_of_gt (blk_lt (g := gb399) (o := .cells #[.int .i64 0, .string (⟨#[]⟩ : ByteArray), .bool false, .int .i64 0, .int .i64 0, .bool false] 58 (0, 0)) (by (with_reducible repeat (first | refine blk_drewN ?_ _ | refine blk_drew ?_ | refine blk_alloc ?_ _)); exact BK399.out)) : gb408 ≠ gb399))
                    have n9_ := Aside0.mk ((by rw [hg]; exact Nat.ne_of_lt (blk_lt (g := gb400) (o := .cells #[.int .i64 x401000_1, .string x401001_1, .bool x401002_1, .int .i64 x401003_1, .int .i64 x401004_1, .bool true] 58 (0, 0)) (by (with_reducible repeat (first | refine blk_drewN ?_ _ | refine blk_drew ?_ | refine blk_alloc ?_ _)); exact BK400.out)) : gb400 ≠ gb408))
                    have n10_ := Aside0.mk ((by rw [hg]; exact Nat.ne_of_gt (blk_lt (g := gb400) (o := .cells #[.int .i64 x401000_1, .string x401001_1, .bool x401002_1, .int .i64 x401003_1, .int .i64 x401004_1, .bool true] 58 (0, 0)) (by (with_reducible repeat (first | refine blk_drewN ?_ _ | refine blk_drew ?_ | refine blk_alloc ?_ _)); exact BK400.out)) : gb408 ≠ gb400))
                    clear HO406
                    clear BK399
                    clear BK400
                    clear HB
                    have HO406 := n0_
                    have BK399 := n1_
                    have BK400 := n2_
                    have HB := n3_
                    have BK408 := n4_
                    have GW408 := n5_
                    have GE408 := n6_
                    have NB399_408 := n7_
                    have NB408_399 := n8_
                    have NB400_408 := n9_
                    have NB408_400 := n10_
                    clear n0_ n1_ n2_ n3_ n4_ n5_ n6_ n7_ n8_ n9_ n10_
                    clear hb hbox hg
                    refine hK.out _ _ ⟨(blk_cell BK400.out 0).trans rfl, (blk_cell BK400.out 1).trans rfl, (blk_cell BK400.out 2).trans rfl, (blk_cell BK400.out 3).trans rfl, (blk_cell BK400.out 4).trans rfl, (blk_cell BK400.out 5).trans rfl, ((HB.out.cell (World.block_lt_of_cell? w _ hw401_0)).trans hw401_0), ((HB.out.cell (World.block_lt_of_cell? w _ hw401_1)).trans hw401_1), ((HB.out.cell (World.block_lt_of_cell? w _ hw401_2)).trans hw401_2)⟩ (fun hHeld => ?_)
                    clear hK K
                    refine norm_ (a' := ?_) ?_ ?_
                    rotate_left
                    · show Act.put _ (some 7) _ = _
                      simp only [Act.put, List.setIfInBounds_toArray, List.set_cons_zero, List.set_cons_succ]
                      rfl
                    exact norm_ (by simp only [putAll, Act.put, List.setIfInBounds_toArray, List.set_cons_zero, List.set_cons_succ]) (hCont (v405, gb408) _ ⟨hHeld, (by (with_reducible repeat (first | apply Kd.R_alloc | apply Kd.R_drewN | apply Kd.R_drew)); exact HO406.out), (by (with_reducible repeat (first | refine blk_drewN ?_ _ | refine blk_drew ?_ | refine blk_alloc ?_ _)); exact BK399.out), (by (with_reducible repeat (first | refine blk_drewN ?_ _ | refine blk_drew ?_ | refine blk_alloc ?_ _)); exact BK400.out), (by (with_reducible repeat (first | refine blk_drewN ?_ _ | refine blk_drew ?_ | refine blk_alloc ?_ _)); exact BK408.out), GW408.out, GE408.out, NB399_408.out, NB408_399.out, NB400_408.out, NB408_400.out, (by repeat (first | (with_reducible first | exact HB.out | apply below_alloc | apply pw_below_drewN | apply below_drew1 | refine below_set ?_ GE399.out | refine below_set ?_ GE400.out | refine below_set ?_ GE408.out) | exact HB.out))⟩)
                  · skip
                    refine box_step ?hg (N := 7) ?hd (cs := #[.int .i64 0, .string (⟨#[]⟩ : ByteArray)]) (t := 45) ?hr ?_; (case hd => rfl); (case hg => rfl); (case hr => first | (go_simp; done) | (go_simp; rfl))
                    intro gb408 hg w98 hbox hb
                    have n0_ := Aside0.mk (blk_below (g := gb399) (o := .cells #[.int .i64 0, .string (⟨#[]⟩ : ByteArray), .bool false, .int .i64 0, .int .i64 0, .bool false] 58 (0, 0)) (by (with_reducible repeat (first | refine blk_drewN ?_ _ | refine blk_drew ?_ | refine blk_alloc ?_ _)); exact BK399.out) hb)
                    have n1_ := Aside0.mk (blk_below (g := gb400) (o := .cells #[.int .i64 x401000_1, .string x401001_1, .bool x401002_1, .int .i64 x401003_1, .int .i64 x401004_1, .bool true] 58 (0, 0)) (by (with_reducible repeat (first | refine blk_drewN ?_ _ | refine blk_drew ?_ | refine blk_alloc ?_ _)); exact BK400.out) hb)
                    have n2_ := Aside0.mk (below_step (by repeat (first | (with_reducible first | exact HB.out | apply below_alloc | apply pw_below_drewN | apply below_drew1 | refine below_set ?_ GE399.out | refine below_set ?_ GE400.out) | exact HB.out)) hb)
                    have n3_ := Aside0.mk (hbox)
                    have n4_ := Aside0.mk ((by rw [hg]; exact (below_size (by repeat (first | (with_reducible first | exact HB.out | apply below_alloc | apply pw_below_drewN | apply below_drew1 | refine below_set ?_ GE399.out | refine below_set ?_ GE400.out) | exact HB.out))) : w.heap.size ≤ gb408))
                    have n5_ := Aside0.mk ((by rw [hg]; exact (below_size (by repeat (first | (with_reducible first | exact HB.out | apply below_alloc | apply pw_below_drewN | apply below_drew1 | refine below_set ?_ GE399.out | refine below_set ?_ GE400.out) | exact HB.out))) : w.heap.size ≤ gb408))
                    have n6_ := Aside0.mk ((by rw [hg]; exact Nat.ne_of_lt (blk_lt (g := gb399) (o := .cells #[.int .i64 0, .string (⟨#[]⟩ : ByteArray), .bool false, .int .i64 0, .int .i64 0, .bool false] 58 (0, 0)) (by (with_reducible repeat (first | refine blk_drewN ?_ _ | refine blk_drew ?_ | refine blk_alloc ?_ _)); exact BK399.out)) : gb399 ≠ gb408))
                    have n7_ := Aside0.mk ((by rw [hg]; exact Nat.ne_of_gt (blk_lt (g := gb399) (o := .cells #[.int .i64 0, .string (⟨#[]⟩ : ByteArray), .bool false, .int .i64 0, .int .i64 0, .bool false] 58 (0, 0)) (by (with_reducible repeat (first | refine blk_drewN ?_ _ | refine blk_drew ?_ | refine blk_alloc ?_ _)); exact BK399.out)) : gb408 ≠ gb399))
                    have n8_ := Aside0.mk ((by rw [hg]; exact Nat.ne_of_lt (blk_lt (g := gb400) (o := .cells #[.int .i64 x401000_1, .string x401001_1, .bool x401002_1, .int .i64 x401003_1, .int .i64 x401004_1, .bool true] 58 (0, 0)) (by (with_reducible repeat (first | refine blk_drewN ?_ _ | refine blk_drew ?_ | refine blk_alloc ?_ _)); exact BK400.out)) : gb400 ≠ gb408))
                    have n9_ := Aside0.mk ((by rw [hg]; exact Nat.ne_of_gt (blk_lt (g := gb400) (o := .cells #[.int .i64 x401000_1, .string x401001_1, .bool x401002_1, .int .i64 x401003_1, .int .i64 x401004_1, .bool true] 58 (0, 0)) (by (with_reducible repeat (first | refine blk_drewN ?_ _ | refine blk_drew ?_ | refine blk_alloc ?_ _)); exact BK400.out)) : gb408 ≠ gb400))
                    clear BK399
                    clear BK400
                    clear HB
                    have BK399 := n0_
                    have BK400 := n1_
                    have HB := n2_
                    have BK408 := n3_
                    have GW408 := n4_
                    have GE408 := n5_
                    have NB399_408 := n6_
                    have NB408_399 := n7_
                    have NB400_408 := n8_
                    have NB408_400 := n9_
                    clear n0_ n1_ n2_ n3_ n4_ n5_ n6_ n7_ n8_ n9_
                    clear hb hbox hg
                    refine hK.out _ _ ⟨(blk_cell BK400.out 0).trans rfl, (blk_cell BK400.out 1).trans rfl, (blk_cell BK400.out 2).trans rfl, (blk_cell BK400.out 3).trans rfl, (blk_cell BK400.out 4).trans rfl, (blk_cell BK400.out 5).trans rfl, ((HB.out.cell (World.block_lt_of_cell? w _ hw401_0)).trans hw401_0), ((HB.out.cell (World.block_lt_of_cell? w _ hw401_1)).trans hw401_1), ((HB.out.cell (World.block_lt_of_cell? w _ hw401_2)).trans hw401_2)⟩ (fun hHeld => ?_)
                    clear hK K
                    refine norm_ (a' := ?_) ?_ ?_
                    rotate_left
                    · show Act.put _ (some 7) _ = _
                      simp only [Act.put, List.setIfInBounds_toArray, List.set_cons_zero, List.set_cons_succ]
                      rfl
                    refine one_ (i := 7) (N := some 26) #[true, true, true, true, true, true, true, true, false, false, false, false, true, false, false, false] rfl rfl (one_of HT_.out (by kernel_rfl)) (by decide) (fun K hK => ?_)
                    refine goes_ Tryd.func24 (by kernel_rfl) rfl #[.agg #[.int .i64 x401000_1, .string x401001_1], .slice A0 l0.length c0, .agg #[.int .i64 ((rd_T47 l1 x6_1).f0), .int .i64 ((rd_T47 l1 x6_1).f1), .int .u8 ((rd_T47 l1 x6_1).f2)]] (by rfl) rfl rfl (by (try simp only [List.map_toArray, List.map_cons, List.map_nil]); first | done | rfl | (simp only [List.length_drop, List.length_take]; rfl)) ?_
                    with_reducible refine (origin_Step.calls k1 x401000_1 x401001_1 _ _ l0 ((rd_T47 l1 x6_1).f0) ((rd_T47 l1 x6_1).f1) ((rd_T47 l1 x6_1).f2) t402 t403 t404 t407 _ ?side1 ?side2 A9.out).mono ?_
                    (case side1 => repeat (first | exact (Kd.C_below HR0.out HB.out) | (with_reducible refine Kd.C_alloc ?_ _) | (with_reducible refine Kd.C_drewN ?_ _) | (with_reducible refine Kd.C_drew ?_)))
                    (case side2 => exact HC0.out)
                    rintro e w99 ⟨v405, rfl, ho0, hb⟩
                    refine ⟨_, rfl, ?_⟩
                    have n0_ := Aside0.mk (Kd.R_lower ho0 (below_size (by repeat (first | (with_reducible first | exact HB.out | apply below_alloc | apply pw_below_drewN | apply below_drew1 | refine below_set ?_ GE399.out | refine below_set ?_ GE400.out | refine below_set ?_ GE408.out) | exact HB.out))))
                    have n1_ := Aside0.mk (blk_below (g := gb399) (o := .cells #[.int .i64 0, .string (⟨#[]⟩ : ByteArray), .bool false, .int .i64 0, .int .i64 0, .bool false] 58 (0, 0)) (by (with_reducible repeat (first | refine blk_drewN ?_ _ | refine blk_drew ?_ | refine blk_alloc ?_ _)); exact BK399.out) hb)
                    have n2_ := Aside0.mk (blk_below (g := gb400) (o := .cells #[.int .i64 x401000_1, .string x401001_1, .bool x401002_1, .int .i64 x401003_1, .int .i64 x401004_1, .bool true] 58 (0, 0)) (by (with_reducible repeat (first | refine blk_drewN ?_ _ | refine blk_drew ?_ | refine blk_alloc ?_ _)); exact BK400.out) hb)
                    have n3_ := Aside0.mk (blk_below (g := gb408) (o := .cells #[.int .i64 0, .string (⟨#[]⟩ : ByteArray)] 45 (0, 0)) (by (with_reducible repeat (first | refine blk_drewN ?_ _ | refine blk_drew ?_ | refine blk_alloc ?_ _)); exact BK408.out) hb)
                    have n4_ := Aside0.mk (below_step (by repeat (first | (with_reducible first | exact HB.out | apply below_alloc | apply pw_below_drewN | apply below_drew1 | refine below_set ?_ GE399.out | refine below_set ?_ GE400.out | refine below_set ?_ GE408.out) | exact HB.out)) hb)
                    clear BK399
                    clear BK400
                    clear BK408
                    clear HB
                    have HO406 := n0_
                    have BK399 := n1_
                    have BK400 := n2_
                    have BK408 := n3_
                    have HB := n4_
                    clear n0_ n1_ n2_ n3_ n4_
                    (try clear hb)
                    (try clear hb2)
                    (try clear hk)
                    (try clear hi)
                    (try clear ho0)
                    refine hK.out _ _ ⟨(blk_cell BK400.out 0).trans rfl, (blk_cell BK400.out 1).trans rfl, (blk_cell BK400.out 2).trans rfl, (blk_cell BK400.out 3).trans rfl, (blk_cell BK400.out 4).trans rfl, (blk_cell BK400.out 5).trans rfl, ((HB.out.cell (World.block_lt_of_cell? w _ hw401_0)).trans hw401_0), ((HB.out.cell (World.block_lt_of_cell? w _ hw401_1)).trans hw401_1), ((HB.out.cell (World.block_lt_of_cell? w _ hw401_2)).trans hw401_2)⟩ (fun hHeld => ?_)
                    clear hK K
                    refine norm_ (a' := ?_) ?_ ?_
                    rotate_left
                    · show Act.put _ (some 26) _ = _
                      simp only [Act.put, List.setIfInBounds_toArray, List.set_cons_zero, List.set_cons_succ]
                      rfl
                    refine pure_ (i := 8) (N := some 18) (v := ?_) (a' := ?_) #[true, true, true, true, true, true, true, true, true, false, false, false, true, false, false, false] rfl rfl (any_of HT_.out (by kernel_rfl)) (fun _ _ _ h => h) (Or.inl ⟨by rfl, ?_⟩) ?_ ?_
                    rotate_left
                    · intro w'
                      go_simp
                      with_reducible rfl
                    rotate_left
                    · simp only [Act.put, List.setIfInBounds_toArray, List.set_cons_zero, List.set_cons_succ]
                      rfl
                    refine pure_ (i := 9) (N := some 27) (v := ?_) (a' := ?_) #[true, true, true, true, true, true, true, true, true, true, false, false, true, false, false, false] rfl rfl (any_of HT_.out (by kernel_rfl)) (fun _ _ _ h => h) (Or.inl ⟨by rfl, ?_⟩) ?_ ?_
                    rotate_left
                    · intro w'
                      go_simp
                      with_reducible rfl
                    rotate_left
                    · simp only [Act.put, List.setIfInBounds_toArray, List.set_cons_zero, List.set_cons_succ]
                      rfl
                    refine pure_ (i := 10) (N := some 28) (v := ?_) (a' := ?_) #[true, true, true, true, true, true, true, true, true, true, true, false, true, false, false, false] rfl rfl (any_of HT_.out (by kernel_rfl)) (fun _ _ _ h => h) (Or.inl ⟨by rfl, ?_⟩) ?_ ?_
                    rotate_left
                    · intro w'
                      go_simp
                      with_reducible rfl
                    rotate_left
                    · simp only [Act.put, List.setIfInBounds_toArray, List.set_cons_zero, List.set_cons_succ]
                      rfl
                    refine pure_ (i := 11) (N := some 29) (v := ?_) (a' := ?_) #[true, true, true, true, true, true, true, true, true, true, true, true, true, false, false, false] rfl rfl (any_of HT_.out (by kernel_rfl)) (fun _ _ _ h => h) (Or.inl ⟨by rfl, ?_⟩) ?_ ?_
                    rotate_left
                    · intro w'
                      go_simp
                      with_reducible rfl
                    rotate_left
                    · simp only [Act.put, List.setIfInBounds_toArray, List.set_cons_zero, List.set_cons_succ]
                      rfl
                    exact norm_ (by simp only [putAll, Act.put, List.setIfInBounds_toArray, List.set_cons_zero, List.set_cons_succ]) (hCont (v405, gb408) _ ⟨hHeld, (by (with_reducible repeat (first | apply Kd.R_alloc | apply Kd.R_drewN | apply Kd.R_drew)); exact HO406.out), (by (with_reducible repeat (first | refine blk_drewN ?_ _ | refine blk_drew ?_ | refine blk_alloc ?_ _)); exact BK399.out), (by (with_reducible repeat (first | refine blk_drewN ?_ _ | refine blk_drew ?_ | refine blk_alloc ?_ _)); exact BK400.out), (by (with_reducible repeat (first | refine blk_drewN ?_ _ | refine blk_drew ?_ | refine blk_alloc ?_ _)); exact BK408.out), GW408.out, GE408.out, NB399_408.out, NB408_399.out, NB400_408.out, NB408_400.out, (by repeat (first | (with_reducible first | exact HB.out | apply below_alloc | apply pw_below_drewN | apply below_drew1 | refine below_set ?_ GE399.out | refine below_set ?_ GE400.out | refine below_set ?_ GE408.out) | exact HB.out))⟩)
                rintro ⟨v405, gb408⟩ w100 ⟨hS_, h0_, h1_, h2_, h3_, h4_, h5_, h6_, h7_, h8_, h9_, h10_⟩
                have n0_ : Aside0 (Kd.R k62 62 w100 w.heap.size (fun _ => True) v405 t404) := ⟨h0_⟩
                have n1_ : Aside0 (w100.heap[gb399]? = some (.cells #[.int .i64 0, .string (⟨#[]⟩ : ByteArray), .bool false, .int .i64 0, .int .i64 0, .bool false] 58 (0, 0))) := ⟨h1_⟩
                have n2_ : Aside0 (w100.heap[gb400]? = some (.cells #[.int .i64 x401000_1, .string x401001_1, .bool x401002_1, .int .i64 x401003_1, .int .i64 x401004_1, .bool true] 58 (0, 0))) := ⟨h2_⟩
                have n3_ : Aside0 (w100.heap[gb408]? = some (.cells #[.int .i64 0, .string (⟨#[]⟩ : ByteArray)] 45 (0, 0))) := ⟨h3_⟩
                have n4_ : Aside0 (w.heap.size ≤ gb408) := ⟨h4_⟩
                have n5_ : Aside0 (w.heap.size ≤ gb408) := ⟨h5_⟩
                have n6_ : Aside0 (gb399 ≠ gb408) := ⟨h6_⟩
                have n7_ : Aside0 (gb408 ≠ gb399) := ⟨h7_⟩
                have n8_ : Aside0 (gb400 ≠ gb408) := ⟨h8_⟩
                have n9_ : Aside0 (gb408 ≠ gb400) := ⟨h9_⟩
                have n10_ : Aside0 (Below w.heap.size w w100) := ⟨h10_⟩
                clear BK399
                clear BK400
                clear HB
                clear h0_ h1_ h2_ h3_ h4_ h5_ h6_ h7_ h8_ h9_ h10_
                have HO406 := n0_
                have BK399 := n1_
                have BK400 := n2_
                have BK408 := n3_
                have GW408 := n4_
                have GE408 := n5_
                have NB399_408 := n6_
                have NB408_399 := n7_
                have NB400_408 := n8_
                have NB408_400 := n9_
                have HB := n10_
                clear n0_ n1_ n2_ n3_ n4_ n5_ n6_ n7_ n8_ n9_ n10_
                have hHeld : w100.cell? ⟨gb400, 0, none⟩ = some (.int .i64 x401000_1) ∧ w100.cell? ⟨gb400, 1, none⟩ = some (.string x401001_1) ∧ w100.cell? ⟨gb400, 2, none⟩ = some (.bool x401002_1) ∧ w100.cell? ⟨gb400, 3, none⟩ = some (.int .i64 x401003_1) ∧ w100.cell? ⟨gb400, 4, none⟩ = some (.int .i64 x401004_1) ∧ w100.cell? ⟨gb400, 5, none⟩ = some (.bool true) ∧ w100.cell? (ad401.add ((x6_1).toNat * 3)) = some (.int .i64 ((rd_T47 l1 x6_1).f0)) ∧ w100.cell? ⟨(ad401.add ((x6_1).toNat * 3)).block, (ad401.add ((x6_1).toNat * 3)).off + 1, none⟩ = some (.int .i64 ((rd_T47 l1 x6_1).f1)) ∧ w100.cell? ⟨(ad401.add ((x6_1).toNat * 3)).block, (ad401.add ((x6_1).toNat * 3)).off + 2, none⟩ = some (.int .u8 ((rd_T47 l1 x6_1).f2)) := hS_
                refine norm_ (a' := ?_) ?_ ?_
                rotate_left
                · simp only [putAll, Act.put, List.setIfInBounds_toArray, List.set_cons_zero, List.set_cons_succ]
                  rfl
                refine one_ (i := 13) (N := none) #[true, true, true, true, true, true, true, true, true, true, true, true, true, true, false, false] rfl rfl (one_of HT_.out (by kernel_rfl)) (by decide) (fun K hK => ?_)
                have hs101 : w100.cell? ⟨gb408, 0, none⟩ = some (.int .i64 0) := (blk_cell BK408.out 0).trans rfl
                have hfs101 := blk_frozen BK408.out 0
                have hns101_0 := NB399_408.out
                have hns101_1 := NB400_408.out
                have hms101_0 := NB408_399.out
                have hms101_1 := NB408_400.out
                have hs102 : w100.cell? ⟨gb408, 1, none⟩ = some (.string (⟨#[]⟩ : ByteArray)) := (blk_cell BK408.out 1).trans rfl
                have hfs102 := blk_frozen BK408.out 1
                have hns102_0 := NB399_408.out
                have hns102_1 := NB400_408.out
                have hms102_0 := NB408_399.out
                have hms102_1 := NB408_400.out
                refine skip_ (w1 := ?_) (by rfl) rfl ?_ ?_
                rotate_left
                · go_simp
                  rfl
                refine hK.out _ _ ⟨((cell_far (p := ⟨gb408, _, none⟩) NB400_408.out _).trans (((cell_far (p := ⟨gb408, _, none⟩) NB400_408.out _).trans (hHeld.1)))), ((cell_far (p := ⟨gb408, _, none⟩) NB400_408.out _).trans (((cell_far (p := ⟨gb408, _, none⟩) NB400_408.out _).trans (hHeld.2.1)))), ((cell_far (p := ⟨gb408, _, none⟩) NB400_408.out _).trans (((cell_far (p := ⟨gb408, _, none⟩) NB400_408.out _).trans (hHeld.2.2.1)))), ((cell_far (p := ⟨gb408, _, none⟩) NB400_408.out _).trans (((cell_far (p := ⟨gb408, _, none⟩) NB400_408.out _).trans (hHeld.2.2.2.1)))), ((cell_far (p := ⟨gb408, _, none⟩) NB400_408.out _).trans (((cell_far (p := ⟨gb408, _, none⟩) NB400_408.out _).trans (hHeld.2.2.2.2.1)))), ((cell_far (p := ⟨gb408, _, none⟩) NB400_408.out _).trans (((cell_far (p := ⟨gb408, _, none⟩) NB400_408.out _).trans (hHeld.2.2.2.2.2.1)))), ((cell_far (p := ⟨gb408, _, none⟩) (by first | exact Nat.ne_of_lt (Nat.lt_of_lt_of_le (by have := World.block_lt_of_cell? _ _ hw401_0; first | rwa [add_block] at this | exact this) GW408.out) | (rw [add_block]; exact Nat.ne_of_lt (Nat.lt_of_lt_of_le (by have := World.block_lt_of_cell? _ _ hw401_0; first | rwa [add_block] at this | exact this) GW408.out)) | (show (Addr.add _ _).block ≠ _; rw [add_block]; exact Nat.ne_of_lt (Nat.lt_of_lt_of_le (by have := World.block_lt_of_cell? _ _ hw401_0; first | rwa [add_block] at this | exact this) GW408.out)) | (dsimp only; exact Nat.ne_of_lt (Nat.lt_of_lt_of_le (by have := World.block_lt_of_cell? _ _ hw401_0; first | rwa [add_block] at this | exact this) GW408.out))) _).trans (((cell_far (p := ⟨gb408, _, none⟩) (by first | exact Nat.ne_of_lt (Nat.lt_of_lt_of_le (by have := World.block_lt_of_cell? _ _ hw401_0; first | rwa [add_block] at this | exact this) GW408.out) | (rw [add_block]; exact Nat.ne_of_lt (Nat.lt_of_lt_of_le (by have := World.block_lt_of_cell? _ _ hw401_0; first | rwa [add_block] at this | exact this) GW408.out)) | (show (Addr.add _ _).block ≠ _; rw [add_block]; exact Nat.ne_of_lt (Nat.lt_of_lt_of_le (by have := World.block_lt_of_cell? _ _ hw401_0; first | rwa [add_block] at this | exact this) GW408.out)) | (dsimp only; exact Nat.ne_of_lt (Nat.lt_of_lt_of_le (by have := World.block_lt_of_cell? _ _ hw401_0; first | rwa [add_block] at this | exact this) GW408.out))) _).trans (hHeld.2.2.2.2.2.2.1)))), ((cell_far (p := ⟨gb408, _, none⟩) (by first | exact Nat.ne_of_lt (Nat.lt_of_lt_of_le (by have := World.block_lt_of_cell? _ _ hw401_1; first | rwa [add_block] at this | exact this) GW408.out) | (rw [add_block]; exact Nat.ne_of_lt (Nat.lt_of_lt_of_le (by have := World.block_lt_of_cell? _ _ hw401_1; first | rwa [add_block] at this | exact this) GW408.out)) | (show (Addr.add _ _).block ≠ _; rw [add_block]; exact Nat.ne_of_lt (Nat.lt_of_lt_of_le (by have := World.block_lt_of_cell? _ _ hw401_1; first | rwa [add_block] at this | exact this) GW408.out)) | (dsimp only; exact Nat.ne_of_lt (Nat.lt_of_lt_of_le (by have := World.block_lt_of_cell? _ _ hw401_1; first | rwa [add_block] at this | exact this) GW408.out))) _).trans (((cell_far (p := ⟨gb408, _, none⟩) (by first | exact Nat.ne_of_lt (Nat.lt_of_lt_of_le (by have := World.block_lt_of_cell? _ _ hw401_1; first | rwa [add_block] at this | exact this) GW408.out) | (rw [add_block]; exact Nat.ne_of_lt (Nat.lt_of_lt_of_le (by have := World.block_lt_of_cell? _ _ hw401_1; first | rwa [add_block] at this | exact this) GW408.out)) | (show (Addr.add _ _).block ≠ _; rw [add_block]; exact Nat.ne_of_lt (Nat.lt_of_lt_of_le (by have := World.block_lt_of_cell? _ _ hw401_1; first | rwa [add_block] at this | exact this) GW408.out)) | (dsimp only; exact Nat.ne_of_lt (Nat.lt_of_lt_of_le (by have := World.block_lt_of_cell? _ _ hw401_1; first | rwa [add_block] at this | exact this) GW408.out))) _).trans (hHeld.2.2.2.2.2.2.2.1)))), ((cell_far (p := ⟨gb408, _, none⟩) (by first | exact Nat.ne_of_lt (Nat.lt_of_lt_of_le (by have := World.block_lt_of_cell? _ _ hw401_2; first | rwa [add_block] at this | exact this) GW408.out) | (rw [add_block]; exact Nat.ne_of_lt (Nat.lt_of_lt_of_le (by have := World.block_lt_of_cell? _ _ hw401_2; first | rwa [add_block] at this | exact this) GW408.out)) | (show (Addr.add _ _).block ≠ _; rw [add_block]; exact Nat.ne_of_lt (Nat.lt_of_lt_of_le (by have := World.block_lt_of_cell? _ _ hw401_2; first | rwa [add_block] at this | exact this) GW408.out)) | (dsimp only; exact Nat.ne_of_lt (Nat.lt_of_lt_of_le (by have := World.block_lt_of_cell? _ _ hw401_2; first | rwa [add_block] at this | exact this) GW408.out))) _).trans (((cell_far (p := ⟨gb408, _, none⟩) (by first | exact Nat.ne_of_lt (Nat.lt_of_lt_of_le (by have := World.block_lt_of_cell? _ _ hw401_2; first | rwa [add_block] at this | exact this) GW408.out) | (rw [add_block]; exact Nat.ne_of_lt (Nat.lt_of_lt_of_le (by have := World.block_lt_of_cell? _ _ hw401_2; first | rwa [add_block] at this | exact this) GW408.out)) | (show (Addr.add _ _).block ≠ _; rw [add_block]; exact Nat.ne_of_lt (Nat.lt_of_lt_of_le (by have := World.block_lt_of_cell? _ _ hw401_2; first | rwa [add_block] at this | exact this) GW408.out)) | (dsimp only; exact Nat.ne_of_lt (Nat.lt_of_lt_of_le (by have := World.block_lt_of_cell? _ _ hw401_2; first | rwa [add_block] at this | exact this) GW408.out))) _).trans (hHeld.2.2.2.2.2.2.2.2))))⟩ (fun hHeld => ?_)
                clear hK K
                refine pure_ (i := 14) (N := some 8) (v := ?_) (a' := ?_) #[true, true, true, true, true, true, true, true, true, true, true, true, true, true, true, false] rfl rfl (any_of HT_.out (by kernel_rfl)) (fun _ _ _ h => h) (Or.inl ⟨by rfl, ?_⟩) ?_ ?_
                rotate_left
                · intro w'
                  go_simp
                  with_reducible rfl
                rotate_left
                · simp only [Act.put, List.setIfInBounds_toArray, List.set_cons_zero, List.set_cons_succ]
                  rfl
                refine pure_ (i := 15) (N := some 9) (v := ?_) (a' := ?_) #[true, true, true, true, true, true, true, true, true, true, true, true, true, true, true, true] rfl rfl (any_of HT_.out (by kernel_rfl)) (fun _ _ _ h => h) (Or.inl ⟨by rfl, ?_⟩) ?_ ?_
                rotate_left
                · intro w'
                  go_simp
                  with_reducible rfl
                rotate_left
                · simp only [Act.put, List.setIfInBounds_toArray, List.set_cons_zero, List.set_cons_succ]
                  rfl
                refine done_ (done_of HT_.out (by kernel_rfl)) ?_
                have hnb103 := NB400_399.out
                have hnc103 := NB399_400.out
                have hnb104 := NB400_408.out
                have hnc104 := NB408_400.out
                have hcz105_0 : w100.cell? ⟨gb400, 0, none⟩ = some (.int .i64 x401000_1) := (blk_cell BK400.out 0).trans rfl
                have hcz105_1 : w100.cell? ⟨gb400, 1, none⟩ = some (.string x401001_1) := (blk_cell BK400.out 1).trans rfl
                have hcz105_2 : w100.cell? ⟨gb400, 2, none⟩ = some (.bool x401002_1) := (blk_cell BK400.out 2).trans rfl
                have hcz105_3 : w100.cell? ⟨gb400, 3, none⟩ = some (.int .i64 x401003_1) := (blk_cell BK400.out 3).trans rfl
                have hcz105_4 : w100.cell? ⟨gb400, 4, none⟩ = some (.int .i64 x401004_1) := (blk_cell BK400.out 4).trans rfl
                have hcz105_5 : w100.cell? ⟨gb400, 5, none⟩ = some (.bool true) := (blk_cell BK400.out 5).trans rfl
                have hfz105_0 := blk_frozen BK400.out 0
                have hfz105_1 := blk_frozen BK400.out 1
                have hfz105_2 := blk_frozen BK400.out 2
                have hfz105_3 := blk_frozen BK400.out 3
                have hfz105_4 := blk_frozen BK400.out 4
                have hfz105_5 := blk_frozen BK400.out 5
                obtain ⟨Ao106, co106, eo106⟩ := Kd.R_slice HO406.out
                subst eo106
                try go_wp2
                go_roundg k1
                case measure => have := HK1.out; omega
                case rel => exact ⟨(wrap64 (x6_1 + 1)), (x401000_1), (x401001_1), (x401002_1), (x401003_1), (x401004_1), (false), (by first | rfl | (simp; done) | (simp [*]; done)), H', ⟨by have := HK1.out; omega⟩, ⟨by (with_reducible repeat (first | refine blk_drewN ?_ _ | refine blk_drew ?_ | refine blk_alloc ?_ _)); refine blk_far ?_ NB399_400.out _; (with_reducible repeat (first | refine blk_drewN ?_ _ | refine blk_drew ?_ | refine blk_alloc ?_ _)); refine blk_far ?_ NB399_408.out _; (with_reducible repeat (first | refine blk_drewN ?_ _ | refine blk_drew ?_ | refine blk_alloc ?_ _)); refine blk_far ?_ NB399_408.out _; (with_reducible repeat (first | refine blk_drewN ?_ _ | refine blk_drew ?_ | refine blk_alloc ?_ _)); exact BK399.out⟩, ⟨by (with_reducible repeat (first | refine blk_drewN ?_ _ | refine blk_drew ?_ | refine blk_alloc ?_ _)); refine blk_put (cs := #[.int .i64 x401000_1, .string x401001_1, .bool x401002_1, .int .i64 x401003_1, .int .i64 x401004_1, .bool true]) ?_ 5 _ (by first | rfl | (rw [isE_nil]; rfl)); (with_reducible repeat (first | refine blk_drewN ?_ _ | refine blk_drew ?_ | refine blk_alloc ?_ _)); refine blk_far ?_ NB400_408.out _; (with_reducible repeat (first | refine blk_drewN ?_ _ | refine blk_drew ?_ | refine blk_alloc ?_ _)); refine blk_far ?_ NB400_408.out _; (with_reducible repeat (first | refine blk_drewN ?_ _ | refine blk_drew ?_ | refine blk_alloc ?_ _)); exact BK400.out⟩, ⟨by repeat (first | (with_reducible first | exact HB.out | apply below_alloc | apply pw_below_drewN | apply below_drew1 | refine below_set ?_ GE399.out | refine below_set ?_ GE400.out | refine below_set ?_ GE408.out) | exact HB.out)⟩⟩
            · replace c83 := Bool.eq_false_iff.mpr c83
              subst c83
              have H1 : (crossbarlaw16_run.l0 k1 l0 l1 (wrap64 (x6_1 + 1)) x401000_1 x401001_1 x401002_1 x401003_1 x401004_1 false) = some (r1, r2, r3, r4, r5, r6) := by rw [if_neg (show ¬ (false = true) by decide)] at H; exact H
              clear H
              have H := H1
              clear H1
              have H' := Aside0.mk H
              clear H
              try go_wp2
              have n0_ := Aside0.mk (blk_drew BK399.out)
              have n1_ := Aside0.mk (blk_drew BK400.out)
              have n2_ := Aside0.mk (below_drew1 HB.out)
              clear BK399
              clear BK400
              clear HB
              have BK399 := n0_
              have BK400 := n1_
              have HB := n2_
              clear n0_ n1_ n2_
              have p401 : 0 ≤ (x6_1 : Int) := of_decide_eq_true (by first | (with_reducible assumption) | assumption)
              have q401 : x6_1 < (l1.length : Int) := of_decide_eq_true (by first | (with_reducible assumption) | assumption)
              obtain ⟨ad401, e401, hx401_0, hx401_1, hx401_2⟩ := at_T47 HR1.out x6_1 p401 q401
              have hw401_2 := hx401_2
              have hw401_1 := hx401_1
              have hw401_0 := hx401_0
              cases e401
              replace hx401_0 := (HB.out.cell (World.block_lt_of_cell? w _ hx401_0)).trans hx401_0
              replace hx401_1 := (HB.out.cell (World.block_lt_of_cell? w _ hx401_1)).trans hx401_1
              replace hx401_2 := (HB.out.cell (World.block_lt_of_cell? w _ hx401_2)).trans hx401_2
              replace p401 := eq_true p401
              replace q401 := eq_true q401
              refine start_ (n := 16) (S := fun w' => w'.cell? ⟨gb400, 0, none⟩ = some (.int .i64 x401000_1) ∧ w'.cell? ⟨gb400, 1, none⟩ = some (.string x401001_1) ∧ w'.cell? ⟨gb400, 2, none⟩ = some (.bool x401002_1) ∧ w'.cell? ⟨gb400, 3, none⟩ = some (.int .i64 x401003_1) ∧ w'.cell? ⟨gb400, 4, none⟩ = some (.int .i64 x401004_1) ∧ w'.cell? ⟨gb400, 5, none⟩ = some (.bool false) ∧ w'.cell? (ad401.add ((x6_1).toNat * 3)) = some (.int .i64 ((rd_T47 l1 x6_1).f0)) ∧ w'.cell? ⟨(ad401.add ((x6_1).toNat * 3)).block, (ad401.add ((x6_1).toNat * 3)).off + 1, none⟩ = some (.int .i64 ((rd_T47 l1 x6_1).f1)) ∧ w'.cell? ⟨(ad401.add ((x6_1).toNat * 3)).block, (ad401.add ((x6_1).toNat * 3)).off + 2, none⟩ = some (.int .u8 ((rd_T47 l1 x6_1).f2))) (ds := []) #[false, false, false, false, false, false, false, false, false, false, false, false, false, false, false, false] (by kernel_rfl) rfl rfl ⟨(blk_cell BK400.out 0).trans rfl, (blk_cell BK400.out 1).trans rfl, (blk_cell BK400.out 2).trans rfl, (blk_cell BK400.out 3).trans rfl, (blk_cell BK400.out 4).trans rfl, (blk_cell BK400.out 5).trans rfl, ((HB.out.cell (World.block_lt_of_cell? w _ hw401_0)).trans hw401_0), ((HB.out.cell (World.block_lt_of_cell? w _ hw401_1)).trans hw401_1), ((HB.out.cell (World.block_lt_of_cell? w _ hw401_2)).trans hw401_2)⟩ (fun hHeld => ?_); refine with_tabW crossbarlaw16_run.tab5 crossbarlaw16_run.bits5 (fun HT_ HW_ => ?_)
              generalize wr.drew = w107 at BK399 BK400 HB hx401_0 hx401_1 hx401_2 hHeld ⊢
              refine pure_ (i := 0) (N := some 19) (v := ?_) (a' := ?_) #[true, false, false, false, false, false, false, false, false, false, false, false, false, false, false, false] rfl rfl (any_of HT_.out (by kernel_rfl)) (fun _ _ _ h => h) (Or.inl ⟨by rfl, ?_⟩) ?_ ?_
              rotate_left
              · intro w'
                go_simp
                with_reducible rfl
              rotate_left
              · simp only [Act.put, List.setIfInBounds_toArray, List.set_cons_zero, List.set_cons_succ]
                rfl
              refine pure_ (i := 2) (N := some 21) (v := ?_) (a' := ?_) #[true, false, true, false, false, false, false, false, false, false, false, false, false, false, false, false] rfl rfl (any_of HT_.out (by kernel_rfl)) (fun _ _ _ h => h) (Or.inl ⟨by rfl, ?_⟩) ?_ ?_
              rotate_left
              · intro w'
                go_simp
                with_reducible rfl
              rotate_left
              · simp only [Act.put, List.setIfInBounds_toArray, List.set_cons_zero, List.set_cons_succ]
                rfl
              refine pure_ (i := 3) (N := some 22) (v := ?_) (a' := ?_) #[true, false, true, true, false, false, false, false, false, false, false, false, false, false, false, false] rfl rfl (any_of HT_.out (by kernel_rfl)) (fun _ _ _ h => h) (Or.inl ⟨by rfl, ?_⟩) ?_ ?_
              rotate_left
              · intro w'
                go_simp
                with_reducible rfl
              rotate_left
              · simp only [Act.put, List.setIfInBounds_toArray, List.set_cons_zero, List.set_cons_succ]
                rfl
              refine pure_ (i := 4) (N := some 23) (v := ?_) (a' := ?_) #[true, false, true, true, true, false, false, false, false, false, false, false, false, false, false, false] rfl rfl (any_of HT_.out (by kernel_rfl)) (fun _ _ _ h => h) (Or.inl ⟨by rfl, ?_⟩) ?_ ?_
              rotate_left
              · intro w'
                go_simp
                with_reducible rfl
              rotate_left
              · simp only [Act.put, List.setIfInBounds_toArray, List.set_cons_zero, List.set_cons_succ]
                rfl
              refine pure_ (i := 5) (N := some 24) (v := ?_) (a' := ?_) #[true, false, true, true, true, true, false, false, false, false, false, false, false, false, false, false] rfl rfl (any_of HT_.out (by kernel_rfl)) (fun _ _ _ h => h) (Or.inl ⟨by rfl, ?_⟩) ?_ ?_
              rotate_left
              · intro w'
                go_simp
                with_reducible rfl
              rotate_left
              · simp only [Act.put, List.setIfInBounds_toArray, List.set_cons_zero, List.set_cons_succ]
                rfl
              refine take_ (i := 1) (N := some 20) (v := ?_) (a' := ?_) #[true, true, true, true, true, true, false, false, false, false, false, false, false, false, false, false] rfl rfl (take_ofW HT_.out HW_.out (by kernel_rfl)) (fun _ _ _ h => h) (Or.inl ⟨by rfl, ?_⟩) hHeld ?_ ?_
              rotate_left
              · rintro w' ⟨s0, s1, s2, s3, s4, s5, s6, s7, s8⟩
                go_simp
                with_reducible rfl
              rotate_left
              · simp only [Act.put, List.setIfInBounds_toArray, List.set_cons_zero, List.set_cons_succ]
                rfl
              refine take_ (i := 6) (N := some 25) (v := ?_) (a' := ?_) #[true, true, true, true, true, true, true, false, false, false, false, false, false, false, false, false] rfl rfl (take_ofW HT_.out HW_.out (by kernel_rfl)) (fun _ _ _ h => h) (Or.inl ⟨by rfl, ?_⟩) hHeld ?_ ?_
              rotate_left
              · rintro w' ⟨s0, s1, s2, s3, s4, s5, s6, s7, s8⟩
                go_simp
                with_reducible rfl
              rotate_left
              · simp only [Act.put, List.setIfInBounds_toArray, List.set_cons_zero, List.set_cons_succ]
                rfl
              refine join_ (σ := Value × Nat) 3 #[true, true, true, true, true, true, true, true, true, true, true, true, true, false, false, false] (fun s_ => [(26, .tuple #[.agg #[.int .i64 t402, .string t403], s_.1, .int .i64 t407]), (7, .pointer (some ⟨s_.2, 0, none⟩)), (18, .tuple #[.agg #[.int .i64 t402, .string t403], s_.1, .int .i64 t407]), (27, .agg #[.int .i64 t402, .string t403]), (28, s_.1), (29, .int .i64 t407)]) (fun s_ w' => (w'.cell? ⟨gb400, 0, none⟩ = some (.int .i64 x401000_1) ∧ w'.cell? ⟨gb400, 1, none⟩ = some (.string x401001_1) ∧ w'.cell? ⟨gb400, 2, none⟩ = some (.bool x401002_1) ∧ w'.cell? ⟨gb400, 3, none⟩ = some (.int .i64 x401003_1) ∧ w'.cell? ⟨gb400, 4, none⟩ = some (.int .i64 x401004_1) ∧ w'.cell? ⟨gb400, 5, none⟩ = some (.bool false) ∧ w'.cell? (ad401.add ((x6_1).toNat * 3)) = some (.int .i64 ((rd_T47 l1 x6_1).f0)) ∧ w'.cell? ⟨(ad401.add ((x6_1).toNat * 3)).block, (ad401.add ((x6_1).toNat * 3)).off + 1, none⟩ = some (.int .i64 ((rd_T47 l1 x6_1).f1)) ∧ w'.cell? ⟨(ad401.add ((x6_1).toNat * 3)).block, (ad401.add ((x6_1).toNat * 3)).off + 2, none⟩ = some (.int .u8 ((rd_T47 l1 x6_1).f2))) ∧ (Kd.R k62 62 w' w.heap.size (fun _ => True) s_.1 t404) ∧ (w'.heap[gb399]? = some (.cells #[.int .i64 0, .string (⟨#[]⟩ : ByteArray), .bool false, .int .i64 0, .int .i64 0, .bool false] 58 (0, 0))) ∧ (w'.heap[gb400]? = some (.cells #[.int .i64 x401000_1, .string x401001_1, .bool x401002_1, .int .i64 x401003_1, .int .i64 x401004_1, .bool false] 58 (0, 0))) ∧ (w'.heap[s_.2]? = some (.cells #[.int .i64 0, .string (⟨#[]⟩ : ByteArray)] 45 (0, 0))) ∧ (w.heap.size ≤ s_.2) ∧ (w.heap.size ≤ s_.2) ∧ (gb399 ≠ s_.2) ∧ (s_.2 ≠ gb399) ∧ (gb400 ≠ s_.2) ∧ (s_.2 ≠ gb400) ∧ (Below w.heap.size w w')) ?_ ?_
              rotate_left
              · intro hCont
                refine two_ (i := 7) (j := 12) (Ni := some 26) (Nj := some 7) #[true, true, true, true, true, true, true, true, false, false, false, false, false, false, false, false] #[true, true, true, true, true, true, true, false, false, false, false, false, true, false, false, false] rfl rfl rfl rfl (two_of HT_.out (by kernel_rfl)) (by decide) (by decide) (fun K hK => ?_) (fun K hK => ?_)
                · skip
                  refine goes_ Tryd.func24 (by kernel_rfl) rfl #[.agg #[.int .i64 x401000_1, .string x401001_1], .slice A0 l0.length c0, .agg #[.int .i64 ((rd_T47 l1 x6_1).f0), .int .i64 ((rd_T47 l1 x6_1).f1), .int .u8 ((rd_T47 l1 x6_1).f2)]] (by rfl) rfl rfl (by (try simp only [List.map_toArray, List.map_cons, List.map_nil]); first | done | rfl | (simp only [List.length_drop, List.length_take]; rfl)) ?_
                  with_reducible refine (origin_Step.calls k1 x401000_1 x401001_1 _ _ l0 ((rd_T47 l1 x6_1).f0) ((rd_T47 l1 x6_1).f1) ((rd_T47 l1 x6_1).f2) t402 t403 t404 t407 _ ?side1 ?side2 A9.out).mono ?_
                  (case side1 => repeat (first | exact (Kd.C_below HR0.out HB.out) | (with_reducible refine Kd.C_alloc ?_ _) | (with_reducible refine Kd.C_drewN ?_ _) | (with_reducible refine Kd.C_drew ?_)))
                  (case side2 => exact HC0.out)
                  rintro e w108 ⟨v405, rfl, ho0, hb⟩
                  refine ⟨_, rfl, ?_⟩
                  have n0_ := Aside0.mk (Kd.R_lower ho0 (below_size (by repeat (first | (with_reducible first | exact HB.out | apply below_alloc | apply pw_below_drewN | apply below_drew1 | refine below_set ?_ GE399.out | refine below_set ?_ GE400.out) | exact HB.out))))
                  have n1_ := Aside0.mk (blk_below (g := gb399) (o := .cells #[.int .i64 0, .string (⟨#[]⟩ : ByteArray), .bool false, .int .i64 0, .int .i64 0, .bool false] 58 (0, 0)) (by (with_reducible repeat (first | refine blk_drewN ?_ _ | refine blk_drew ?_ | refine blk_alloc ?_ _)); exact BK399.out) hb)
                  have n2_ := Aside0.mk (blk_below (g := gb400) (o := .cells #[.int .i64 x401000_1, .string x401001_1, .bool x401002_1, .int .i64 x401003_1, .int .i64 x401004_1, .bool false] 58 (0, 0)) (by (with_reducible repeat (first | refine blk_drewN ?_ _ | refine blk_drew ?_ | refine blk_alloc ?_ _)); exact BK400.out) hb)
                  have n3_ := Aside0.mk (below_step (by repeat (first | (with_reducible first | exact HB.out | apply below_alloc | apply pw_below_drewN | apply below_drew1 | refine below_set ?_ GE399.out | refine below_set ?_ GE400.out) | exact HB.out)) hb)
                  clear BK399
                  clear BK400
                  clear HB
                  have HO406 := n0_
                  have BK399 := n1_
                  have BK400 := n2_
                  have HB := n3_
                  clear n0_ n1_ n2_ n3_
                  (try clear hb)
                  (try clear hb2)
                  (try clear hk)
                  (try clear hi)
                  (try clear ho0)
                  refine hK.out _ _ ⟨(blk_cell BK400.out 0).trans rfl, (blk_cell BK400.out 1).trans rfl, (blk_cell BK400.out 2).trans rfl, (blk_cell BK400.out 3).trans rfl, (blk_cell BK400.out 4).trans rfl, (blk_cell BK400.out 5).trans rfl, ((HB.out.cell (World.block_lt_of_cell? w _ hw401_0)).trans hw401_0), ((HB.out.cell (World.block_lt_of_cell? w _ hw401_1)).trans hw401_1), ((HB.out.cell (World.block_lt_of_cell? w _ hw401_2)).trans hw401_2)⟩ (fun hHeld => ?_)
                  clear hK K
                  refine norm_ (a' := ?_) ?_ ?_
                  rotate_left
                  · show Act.put _ (some 26) _ = _
                    simp only [Act.put, List.setIfInBounds_toArray, List.set_cons_zero, List.set_cons_succ]
                    rfl
                  refine pure_ (i := 8) (N := some 18) (v := ?_) (a' := ?_) #[true, true, true, true, true, true, true, true, true, false, false, false, false, false, false, false] rfl rfl (any_of HT_.out (by kernel_rfl)) (fun _ _ _ h => h) (Or.inl ⟨by rfl, ?_⟩) ?_ ?_
                  rotate_left
                  · intro w'
                    go_simp
                    with_reducible rfl
                  rotate_left
                  · simp only [Act.put, List.setIfInBounds_toArray, List.set_cons_zero, List.set_cons_succ]
                    rfl
                  refine pure_ (i := 9) (N := some 27) (v := ?_) (a' := ?_) #[true, true, true, true, true, true, true, true, true, true, false, false, false, false, false, false] rfl rfl (any_of HT_.out (by kernel_rfl)) (fun _ _ _ h => h) (Or.inl ⟨by rfl, ?_⟩) ?_ ?_
                  rotate_left
                  · intro w'
                    go_simp
                    with_reducible rfl
                  rotate_left
                  · simp only [Act.put, List.setIfInBounds_toArray, List.set_cons_zero, List.set_cons_succ]
                    rfl
                  refine pure_ (i := 10) (N := some 28) (v := ?_) (a' := ?_) #[true, true, true, true, true, true, true, true, true, true, true, false, false, false, false, false] rfl rfl (any_of HT_.out (by kernel_rfl)) (fun _ _ _ h => h) (Or.inl ⟨by rfl, ?_⟩) ?_ ?_
                  rotate_left
                  · intro w'
                    go_simp
                    with_reducible rfl
                  rotate_left
                  · simp only [Act.put, List.setIfInBounds_toArray, List.set_cons_zero, List.set_cons_succ]
                    rfl
                  refine pure_ (i := 11) (N := some 29) (v := ?_) (a' := ?_) #[true, true, true, true, true, true, true, true, true, true, true, true, false, false, false, false] rfl rfl (any_of HT_.out (by kernel_rfl)) (fun _ _ _ h => h) (Or.inl ⟨by rfl, ?_⟩) ?_ ?_
                  rotate_left
                  · intro w'
                    go_simp
                    with_reducible rfl
                  rotate_left
                  · simp only [Act.put, List.setIfInBounds_toArray, List.set_cons_zero, List.set_cons_succ]
                    rfl
                  refine one_ (i := 12) (N := some 7) #[true, true, true, true, true, true, true, true, true, true, true, true, true, false, false, false] rfl rfl (one_of HT_.out (by kernel_rfl)) (by decide) (fun K hK => ?_)
                  refine box_step ?hg (N := 7) ?hd (cs := #[.int .i64 0, .string (⟨#[]⟩ : ByteArray)]) (t := 45) ?hr ?_; (case hd => rfl); (case hg => rfl); (case hr => first | (go_simp; done) | (go_simp; rfl))
                  intro gb408 hg w109 hbox hb
                  have n0_ := Aside0.mk (Kd.R_below (by (with_reducible repeat (first | apply Kd.R_alloc | apply Kd.R_drewN | apply Kd.R_drew)); exact HO406.out) hb)
                  have n1_ := Aside0.mk (blk_below (g := gb399) (o := .cells #[.int .i64 0, .string (⟨#[]⟩ : ByteArray), .bool false, .int .i64 0, .int .i64 0, .bool false] 58 (0, 0)) (by (with_reducible repeat (first | refine blk_drewN ?_ _ | refine blk_drew ?_ | refine blk_alloc ?_ _)); exact BK399.out) hb)
                  have n2_ := Aside0.mk (blk_below (g := gb400) (o := .cells #[.int .i64 x401000_1, .string x401001_1, .bool x401002_1, .int .i64 x401003_1, .int .i64 x401004_1, .bool false] 58 (0, 0)) (by (with_reducible repeat (first | refine blk_drewN ?_ _ | refine blk_drew ?_ | refine blk_alloc ?_ _)); exact BK400.out) hb)
                  have n3_ := Aside0.mk (below_step (by repeat (first | (with_reducible first | exact HB.out | apply below_alloc | apply pw_below_drewN | apply below_drew1 | refine below_set ?_ GE399.out | refine below_set ?_ GE400.out) | exact HB.out)) hb)
                  have n4_ := Aside0.mk (hbox)
                  have n5_ := Aside0.mk ((by rw [hg]; exact (below_size (by repeat (first | (with_reducible first | exact HB.out | apply below_alloc | apply pw_below_drewN | apply below_drew1 | refine below_set ?_ GE399.out | refine below_set ?_ GE400.out) | exact HB.out))) : w.heap.size ≤ gb408))
                  have n6_ := Aside0.mk ((by rw [hg]; exact (below_size (by repeat (first | (with_reducible first | exact HB.out | apply below_alloc | apply pw_below_drewN | apply below_drew1 | refine below_set ?_ GE399.out | refine below_set ?_ GE400.out) | exact HB.out))) : w.heap.size ≤ gb408))
                  have n7_ := Aside0.mk ((by rw [hg]; exact Nat.ne_of_lt (blk_lt (g := gb399) (o := .cells #[.int .i64 0, .string (⟨#[]⟩ : ByteArray), .bool false, .int .i64 0, .int .i64 0, .bool false] 58 (0, 0)) (by (with_reducible repeat (first | refine blk_drewN ?_ _ | refine blk_drew ?_ | refine blk_alloc ?_ _)); exact BK399.out)) : gb399 ≠ gb408))
                  have n8_ := Aside0.mk ((by rw [hg]; exact Nat.ne_of_gt (blk_lt (g := gb399) (o := .cells #[.int .i64 0, .string (⟨#[]⟩ : ByteArray), .bool false, .int .i64 0, .int .i64 0, .bool false] 58 (0, 0)) (by (with_reducible repeat (first | refine blk_drewN ?_ _ | refine blk_drew ?_ | refine blk_alloc ?_ _)); exact BK399.out)) : gb408 ≠ gb399))
                  have n9_ := Aside0.mk ((by rw [hg]; exact Nat.ne_of_lt (blk_lt (g := gb400) (o := .cells #[.int .i64 x401000_1, .string x401001_1, .bool x401002_1, .int .i64 x401003_1, .int .i64 x401004_1, .bool false] 58 (0, 0)) (by (with_reducible repeat (first | refine blk_drewN ?_ _ | refine blk_drew ?_ | refine blk_alloc ?_ _)); exact BK400.out)) : gb400 ≠ gb408))
                  have n10_ := Aside0.mk ((by rw [hg]; exact Nat.ne_of_gt (blk_lt (g := gb400) (o := .cells #[.int .i64 x401000_1, .string x401001_1, .bool x401002_1, .int .i64 x401003_1, .int .i64 x401004_1, .bool false] 58 (0, 0)) (by (with_reducible repeat (first | refine blk_drewN ?_ _ | refine blk_drew ?_ | refine blk_alloc ?_ _)); exact BK400.out)) : gb408 ≠ gb400))
                  clear HO406
                  clear BK399
                  clear BK400
                  clear HB
                  have HO406 := n0_
                  have BK399 := n1_
                  have BK400 := n2_
                  have HB := n3_
                  have BK408 := n4_
                  have GW408 := n5_
                  have GE408 := n6_
                  have NB399_408 := n7_
                  have NB408_399 := n8_
                  have NB400_408 := n9_
                  have NB408_400 := n10_
                  clear n0_ n1_ n2_ n3_ n4_ n5_ n6_ n7_ n8_ n9_ n10_
                  clear hb hbox hg
                  refine hK.out _ _ ⟨(blk_cell BK400.out 0).trans rfl, (blk_cell BK400.out 1).trans rfl, (blk_cell BK400.out 2).trans rfl, (blk_cell BK400.out 3).trans rfl, (blk_cell BK400.out 4).trans rfl, (blk_cell BK400.out 5).trans rfl, ((HB.out.cell (World.block_lt_of_cell? w _ hw401_0)).trans hw401_0), ((HB.out.cell (World.block_lt_of_cell? w _ hw401_1)).trans hw401_1), ((HB.out.cell (World.block_lt_of_cell? w _ hw401_2)).trans hw401_2)⟩ (fun hHeld => ?_)
                  clear hK K
                  refine norm_ (a' := ?_) ?_ ?_
                  rotate_left
                  · show Act.put _ (some 7) _ = _
                    simp only [Act.put, List.setIfInBounds_toArray, List.set_cons_zero, List.set_cons_succ]
                    rfl
                  exact norm_ (by simp only [putAll, Act.put, List.setIfInBounds_toArray, List.set_cons_zero, List.set_cons_succ]) (hCont (v405, gb408) _ ⟨hHeld, (by (with_reducible repeat (first | apply Kd.R_alloc | apply Kd.R_drewN | apply Kd.R_drew)); exact HO406.out), (by (with_reducible repeat (first | refine blk_drewN ?_ _ | refine blk_drew ?_ | refine blk_alloc ?_ _)); exact BK399.out), (by (with_reducible repeat (first | refine blk_drewN ?_ _ | refine blk_drew ?_ | refine blk_alloc ?_ _)); exact BK400.out), (by (with_reducible repeat (first | refine blk_drewN ?_ _ | refine blk_drew ?_ | refine blk_alloc ?_ _)); exact BK408.out), GW408.out, GE408.out, NB399_408.out, NB408_399.out, NB400_408.out, NB408_400.out, (by repeat (first | (with_reducible first | exact HB.out | apply below_alloc | apply pw_below_drewN | apply below_drew1 | refine below_set ?_ GE399.out | refine below_set ?_ GE400.out | refine below_set ?_ GE408.out) | exact HB.out))⟩)
                · skip
                  refine box_step ?hg (N := 7) ?hd (cs := #[.int .i64 0, .string (⟨#[]⟩ : ByteArray)]) (t := 45) ?hr ?_; (case hd => rfl); (case hg => rfl); (case hr => first | (go_simp; done) | (go_simp; rfl))
                  intro gb408 hg w108 hbox hb
                  have n0_ := Aside0.mk (blk_below (g := gb399) (o := .cells #[.int .i64 0, .string (⟨#[]⟩ : ByteArray), .bool false, .int .i64 0, .int .i64 0, .bool false] 58 (0, 0)) (by (with_reducible repeat (first | refine blk_drewN ?_ _ | refine blk_drew ?_ | refine blk_alloc ?_ _)); exact BK399.out) hb)
                  have n1_ := Aside0.mk (blk_below (g := gb400) (o := .cells #[.int .i64 x401000_1, .string x401001_1, .bool x401002_1, .int .i64 x401003_1, .int .i64 x401004_1, .bool false] 58 (0, 0)) (by (with_reducible repeat (first | refine blk_drewN ?_ _ | refine blk_drew ?_ | refine blk_alloc ?_ _)); exact BK400.out) hb)
                  have n2_ := Aside0.mk (below_step (by repeat (first | (with_reducible first | exact HB.out | apply below_alloc | apply pw_below_drewN | apply below_drew1 | refine below_set ?_ GE399.out | refine below_set ?_ GE400.out) | exact HB.out)) hb)
                  have n3_ := Aside0.mk (hbox)
                  have n4_ := Aside0.mk ((by rw [hg]; exact (below_size (by repeat (first | (with_reducible first | exact HB.out | apply below_alloc | apply pw_below_drewN | apply below_drew1 | refine below_set ?_ GE399.out | refine below_set ?_ GE400.out) | exact HB.out))) : w.heap.size ≤ gb408))
                  have n5_ := Aside0.mk ((by rw [hg]; exact (below_size (by repeat (first | (with_reducible first | exact HB.out | apply below_alloc | apply pw_below_drewN | apply below_drew1 | refine below_set ?_ GE399.out | refine below_set ?_ GE400.out) | exact HB.out))) : w.heap.size ≤ gb408))
                  have n6_ := Aside0.mk ((by rw [hg]; exact Nat.ne_of_lt (blk_lt (g := gb399) (o := .cells #[.int .i64 0, .string (⟨#[]⟩ : ByteArray), .bool false, .int .i64 0, .int .i64 0, .bool false] 58 (0, 0)) (by (with_reducible repeat (first | refine blk_drewN ?_ _ | refine blk_drew ?_ | refine blk_alloc ?_ _)); exact BK399.out)) : gb399 ≠ gb408))
                  have n7_ := Aside0.mk ((by rw [hg]; exact Nat.ne_of_gt (blk_lt (g := gb399) (o := .cells #[.int .i64 0, .string (⟨#[]⟩ : ByteArray), .bool false, .int .i64 0, .int .i64 0, .bool false] 58 (0, 0)) (by (with_reducible repeat (first | refine blk_drewN ?_ _ | refine blk_drew ?_ | refine blk_alloc ?_ _)); exact BK399.out)) : gb408 ≠ gb399))
                  have n8_ := Aside0.mk ((by rw [hg]; exact Nat.ne_of_lt (blk_lt (g := gb400) (o := .cells #[.int .i64 x401000_1, .string x401001_1, .bool x401002_1, .int .i64 x401003_1, .int .i64 x401004_1, .bool false] 58 (0, 0)) (by (with_reducible repeat (first | refine blk_drewN ?_ _ | refine blk_drew ?_ | refine blk_alloc ?_ _)); exact BK400.out)) : gb400 ≠ gb408))
                  have n9_ := Aside0.mk ((by rw [hg]; exact Nat.ne_of_gt (blk_lt (g := gb400) (o := .cells #[.int .i64 x401000_1, .string x401001_1, .bool x401002_1, .int .i64 x401003_1, .int .i64 x401004_1, .bool false] 58 (0, 0)) (by (with_reducible repeat (first | refine blk_drewN ?_ _ | refine blk_drew ?_ | refine blk_alloc ?_ _)); exact BK400.out)) : gb408 ≠ gb400))
                  clear BK399
                  clear BK400
                  clear HB
                  have BK399 := n0_
                  have BK400 := n1_
                  have HB := n2_
                  have BK408 := n3_
                  have GW408 := n4_
                  have GE408 := n5_
                  have NB399_408 := n6_
                  have NB408_399 := n7_
                  have NB400_408 := n8_
                  have NB408_400 := n9_
                  clear n0_ n1_ n2_ n3_ n4_ n5_ n6_ n7_ n8_ n9_
                  clear hb hbox hg
                  refine hK.out _ _ ⟨(blk_cell BK400.out 0).trans rfl, (blk_cell BK400.out 1).trans rfl, (blk_cell BK400.out 2).trans rfl, (blk_cell BK400.out 3).trans rfl, (blk_cell BK400.out 4).trans rfl, (blk_cell BK400.out 5).trans rfl, ((HB.out.cell (World.block_lt_of_cell? w _ hw401_0)).trans hw401_0), ((HB.out.cell (World.block_lt_of_cell? w _ hw401_1)).trans hw401_1), ((HB.out.cell (World.block_lt_of_cell? w _ hw401_2)).trans hw401_2)⟩ (fun hHeld => ?_)
                  clear hK K
                  refine norm_ (a' := ?_) ?_ ?_
                  rotate_left
                  · show Act.put _ (some 7) _ = _
                    simp only [Act.put, List.setIfInBounds_toArray, List.set_cons_zero, List.set_cons_succ]
                    rfl
                  refine one_ (i := 7) (N := some 26) #[true, true, true, true, true, true, true, true, false, false, false, false, true, false, false, false] rfl rfl (one_of HT_.out (by kernel_rfl)) (by decide) (fun K hK => ?_)
                  refine goes_ Tryd.func24 (by kernel_rfl) rfl #[.agg #[.int .i64 x401000_1, .string x401001_1], .slice A0 l0.length c0, .agg #[.int .i64 ((rd_T47 l1 x6_1).f0), .int .i64 ((rd_T47 l1 x6_1).f1), .int .u8 ((rd_T47 l1 x6_1).f2)]] (by rfl) rfl rfl (by (try simp only [List.map_toArray, List.map_cons, List.map_nil]); first | done | rfl | (simp only [List.length_drop, List.length_take]; rfl)) ?_
                  with_reducible refine (origin_Step.calls k1 x401000_1 x401001_1 _ _ l0 ((rd_T47 l1 x6_1).f0) ((rd_T47 l1 x6_1).f1) ((rd_T47 l1 x6_1).f2) t402 t403 t404 t407 _ ?side1 ?side2 A9.out).mono ?_
                  (case side1 => repeat (first | exact (Kd.C_below HR0.out HB.out) | (with_reducible refine Kd.C_alloc ?_ _) | (with_reducible refine Kd.C_drewN ?_ _) | (with_reducible refine Kd.C_drew ?_)))
                  (case side2 => exact HC0.out)
                  rintro e w109 ⟨v405, rfl, ho0, hb⟩
                  refine ⟨_, rfl, ?_⟩
                  have n0_ := Aside0.mk (Kd.R_lower ho0 (below_size (by repeat (first | (with_reducible first | exact HB.out | apply below_alloc | apply pw_below_drewN | apply below_drew1 | refine below_set ?_ GE399.out | refine below_set ?_ GE400.out | refine below_set ?_ GE408.out) | exact HB.out))))
                  have n1_ := Aside0.mk (blk_below (g := gb399) (o := .cells #[.int .i64 0, .string (⟨#[]⟩ : ByteArray), .bool false, .int .i64 0, .int .i64 0, .bool false] 58 (0, 0)) (by (with_reducible repeat (first | refine blk_drewN ?_ _ | refine blk_drew ?_ | refine blk_alloc ?_ _)); exact BK399.out) hb)
                  have n2_ := Aside0.mk (blk_below (g := gb400) (o := .cells #[.int .i64 x401000_1, .string x401001_1, .bool x401002_1, .int .i64 x401003_1, .int .i64 x401004_1, .bool false] 58 (0, 0)) (by (with_reducible repeat (first | refine blk_drewN ?_ _ | refine blk_drew ?_ | refine blk_alloc ?_ _)); exact BK400.out) hb)
                  have n3_ := Aside0.mk (blk_below (g := gb408) (o := .cells #[.int .i64 0, .string (⟨#[]⟩ : ByteArray)] 45 (0, 0)) (by (with_reducible repeat (first | refine blk_drewN ?_ _ | refine blk_drew ?_ | refine blk_alloc ?_ _)); exact BK408.out) hb)
                  have n4_ := Aside0.mk (below_step (by repeat (first | (with_reducible first | exact HB.out | apply below_alloc | apply pw_below_drewN | apply below_drew1 | refine below_set ?_ GE399.out | refine below_set ?_ GE400.out | refine below_set ?_ GE408.out) | exact HB.out)) hb)
                  clear BK399
                  clear BK400
                  clear BK408
                  clear HB
                  have HO406 := n0_
                  have BK399 := n1_
                  have BK400 := n2_
                  have BK408 := n3_
                  have HB := n4_
                  clear n0_ n1_ n2_ n3_ n4_
                  (try clear hb)
                  (try clear hb2)
                  (try clear hk)
                  (try clear hi)
                  (try clear ho0)
                  refine hK.out _ _ ⟨(blk_cell BK400.out 0).trans rfl, (blk_cell BK400.out 1).trans rfl, (blk_cell BK400.out 2).trans rfl, (blk_cell BK400.out 3).trans rfl, (blk_cell BK400.out 4).trans rfl, (blk_cell BK400.out 5).trans rfl, ((HB.out.cell (World.block_lt_of_cell? w _ hw401_0)).trans hw401_0), ((HB.out.cell (World.block_lt_of_cell? w _ hw401_1)).trans hw401_1), ((HB.out.cell (World.block_lt_of_cell? w _ hw401_2)).trans hw401_2)⟩ (fun hHeld => ?_)
                  clear hK K
                  refine norm_ (a' := ?_) ?_ ?_
                  rotate_left
                  · show Act.put _ (some 26) _ = _
                    simp only [Act.put, List.setIfInBounds_toArray, List.set_cons_zero, List.set_cons_succ]
                    rfl
                  refine pure_ (i := 8) (N := some 18) (v := ?_) (a' := ?_) #[true, true, true, true, true, true, true, true, true, false, false, false, true, false, false, false] rfl rfl (any_of HT_.out (by kernel_rfl)) (fun _ _ _ h => h) (Or.inl ⟨by rfl, ?_⟩) ?_ ?_
                  rotate_left
                  · intro w'
                    go_simp
                    with_reducible rfl
                  rotate_left
                  · simp only [Act.put, List.setIfInBounds_toArray, List.set_cons_zero, List.set_cons_succ]
                    rfl
                  refine pure_ (i := 9) (N := some 27) (v := ?_) (a' := ?_) #[true, true, true, true, true, true, true, true, true, true, false, false, true, false, false, false] rfl rfl (any_of HT_.out (by kernel_rfl)) (fun _ _ _ h => h) (Or.inl ⟨by rfl, ?_⟩) ?_ ?_
                  rotate_left
                  · intro w'
                    go_simp
                    with_reducible rfl
                  rotate_left
                  · simp only [Act.put, List.setIfInBounds_toArray, List.set_cons_zero, List.set_cons_succ]
                    rfl
                  refine pure_ (i := 10) (N := some 28) (v := ?_) (a' := ?_) #[true, true, true, true, true, true, true, true, true, true, true, false, true, false, false, false] rfl rfl (any_of HT_.out (by kernel_rfl)) (fun _ _ _ h => h) (Or.inl ⟨by rfl, ?_⟩) ?_ ?_
                  rotate_left
                  · intro w'
                    go_simp
                    with_reducible rfl
                  rotate_left
                  · simp only [Act.put, List.setIfInBounds_toArray, List.set_cons_zero, List.set_cons_succ]
                    rfl
                  refine pure_ (i := 11) (N := some 29) (v := ?_) (a' := ?_) #[true, true, true, true, true, true, true, true, true, true, true, true, true, false, false, false] rfl rfl (any_of HT_.out (by kernel_rfl)) (fun _ _ _ h => h) (Or.inl ⟨by rfl, ?_⟩) ?_ ?_
                  rotate_left
                  · intro w'
                    go_simp
                    with_reducible rfl
                  rotate_left
                  · simp only [Act.put, List.setIfInBounds_toArray, List.set_cons_zero, List.set_cons_succ]
                    rfl
                  exact norm_ (by simp only [putAll, Act.put, List.setIfInBounds_toArray, List.set_cons_zero, List.set_cons_succ]) (hCont (v405, gb408) _ ⟨hHeld, (by (with_reducible repeat (first | apply Kd.R_alloc | apply Kd.R_drewN | apply Kd.R_drew)); exact HO406.out), (by (with_reducible repeat (first | refine blk_drewN ?_ _ | refine blk_drew ?_ | refine blk_alloc ?_ _)); exact BK399.out), (by (with_reducible repeat (first | refine blk_drewN ?_ _ | refine blk_drew ?_ | refine blk_alloc ?_ _)); exact BK400.out), (by (with_reducible repeat (first | refine blk_drewN ?_ _ | refine blk_drew ?_ | refine blk_alloc ?_ _)); exact BK408.out), GW408.out, GE408.out, NB399_408.out, NB408_399.out, NB400_408.out, NB408_400.out, (by repeat (first | (with_reducible first | exact HB.out | apply below_alloc | apply pw_below_drewN | apply below_drew1 | refine below_set ?_ GE399.out | refine below_set ?_ GE400.out | refine below_set ?_ GE408.out) | exact HB.out))⟩)
              rintro ⟨v405, gb408⟩ w110 ⟨hS_, h0_, h1_, h2_, h3_, h4_, h5_, h6_, h7_, h8_, h9_, h10_⟩
              have n0_ : Aside0 (Kd.R k62 62 w110 w.heap.size (fun _ => True) v405 t404) := ⟨h0_⟩
              have n1_ : Aside0 (w110.heap[gb399]? = some (.cells #[.int .i64 0, .string (⟨#[]⟩ : ByteArray), .bool false, .int .i64 0, .int .i64 0, .bool false] 58 (0, 0))) := ⟨h1_⟩
              have n2_ : Aside0 (w110.heap[gb400]? = some (.cells #[.int .i64 x401000_1, .string x401001_1, .bool x401002_1, .int .i64 x401003_1, .int .i64 x401004_1, .bool false] 58 (0, 0))) := ⟨h2_⟩
              have n3_ : Aside0 (w110.heap[gb408]? = some (.cells #[.int .i64 0, .string (⟨#[]⟩ : ByteArray)] 45 (0, 0))) := ⟨h3_⟩
              have n4_ : Aside0 (w.heap.size ≤ gb408) := ⟨h4_⟩
              have n5_ : Aside0 (w.heap.size ≤ gb408) := ⟨h5_⟩
              have n6_ : Aside0 (gb399 ≠ gb408) := ⟨h6_⟩
              have n7_ : Aside0 (gb408 ≠ gb399) := ⟨h7_⟩
              have n8_ : Aside0 (gb400 ≠ gb408) := ⟨h8_⟩
              have n9_ : Aside0 (gb408 ≠ gb400) := ⟨h9_⟩
              have n10_ : Aside0 (Below w.heap.size w w110) := ⟨h10_⟩
              clear BK399
              clear BK400
              clear HB
              clear h0_ h1_ h2_ h3_ h4_ h5_ h6_ h7_ h8_ h9_ h10_
              have HO406 := n0_
              have BK399 := n1_
              have BK400 := n2_
              have BK408 := n3_
              have GW408 := n4_
              have GE408 := n5_
              have NB399_408 := n6_
              have NB408_399 := n7_
              have NB400_408 := n8_
              have NB408_400 := n9_
              have HB := n10_
              clear n0_ n1_ n2_ n3_ n4_ n5_ n6_ n7_ n8_ n9_ n10_
              have hHeld : w110.cell? ⟨gb400, 0, none⟩ = some (.int .i64 x401000_1) ∧ w110.cell? ⟨gb400, 1, none⟩ = some (.string x401001_1) ∧ w110.cell? ⟨gb400, 2, none⟩ = some (.bool x401002_1) ∧ w110.cell? ⟨gb400, 3, none⟩ = some (.int .i64 x401003_1) ∧ w110.cell? ⟨gb400, 4, none⟩ = some (.int .i64 x401004_1) ∧ w110.cell? ⟨gb400, 5, none⟩ = some (.bool false) ∧ w110.cell? (ad401.add ((x6_1).toNat * 3)) = some (.int .i64 ((rd_T47 l1 x6_1).f0)) ∧ w110.cell? ⟨(ad401.add ((x6_1).toNat * 3)).block, (ad401.add ((x6_1).toNat * 3)).off + 1, none⟩ = some (.int .i64 ((rd_T47 l1 x6_1).f1)) ∧ w110.cell? ⟨(ad401.add ((x6_1).toNat * 3)).block, (ad401.add ((x6_1).toNat * 3)).off + 2, none⟩ = some (.int .u8 ((rd_T47 l1 x6_1).f2)) := hS_
              refine norm_ (a' := ?_) ?_ ?_
              rotate_left
              · simp only [putAll, Act.put, List.setIfInBounds_toArray, List.set_cons_zero, List.set_cons_succ]
                rfl
              refine one_ (i := 13) (N := none) #[true, true, true, true, true, true, true, true, true, true, true, true, true, true, false, false] rfl rfl (one_of HT_.out (by kernel_rfl)) (by decide) (fun K hK => ?_)
              have hs111 : w110.cell? ⟨gb408, 0, none⟩ = some (.int .i64 0) := (blk_cell BK408.out 0).trans rfl
              have hfs111 := blk_frozen BK408.out 0
              have hns111_0 := NB399_408.out
              have hns111_1 := NB400_408.out
              have hms111_0 := NB408_399.out
              have hms111_1 := NB408_400.out
              have hs112 : w110.cell? ⟨gb408, 1, none⟩ = some (.string (⟨#[]⟩ : ByteArray)) := (blk_cell BK408.out 1).trans rfl
              have hfs112 := blk_frozen BK408.out 1
              have hns112_0 := NB399_408.out
              have hns112_1 := NB400_408.out
              have hms112_0 := NB408_399.out
              have hms112_1 := NB408_400.out
              refine skip_ (w1 := ?_) (by rfl) rfl ?_ ?_
              rotate_left
              · go_simp
                rfl
              refine hK.out _ _ ⟨((cell_far (p := ⟨gb408, _, none⟩) NB400_408.out _).trans (((cell_far (p := ⟨gb408, _, none⟩) NB400_408.out _).trans (hHeld.1)))), ((cell_far (p := ⟨gb408, _, none⟩) NB400_408.out _).trans (((cell_far (p := ⟨gb408, _, none⟩) NB400_408.out _).trans (hHeld.2.1)))), ((cell_far (p := ⟨gb408, _, none⟩) NB400_408.out _).trans (((cell_far (p := ⟨gb408, _, none⟩) NB400_408.out _).trans (hHeld.2.2.1)))), ((cell_far (p := ⟨gb408, _, none⟩) NB400_408.out _).trans (((cell_far (p := ⟨gb408, _, none⟩) NB400_408.out _).trans (hHeld.2.2.2.1)))), ((cell_far (p := ⟨gb408, _, none⟩) NB400_408.out _).trans (((cell_far (p := ⟨gb408, _, none⟩) NB400_408.out _).trans (hHeld.2.2.2.2.1)))), ((cell_far (p := ⟨gb408, _, none⟩) NB400_408.out _).trans (((cell_far (p := ⟨gb408, _, none⟩) NB400_408.out _).trans (hHeld.2.2.2.2.2.1)))), ((cell_far (p := ⟨gb408, _, none⟩) (by first | exact Nat.ne_of_lt (Nat.lt_of_lt_of_le (by have := World.block_lt_of_cell? _ _ hw401_0; first | rwa [add_block] at this | exact this) GW408.out) | (rw [add_block]; exact Nat.ne_of_lt (Nat.lt_of_lt_of_le (by have := World.block_lt_of_cell? _ _ hw401_0; first | rwa [add_block] at this | exact this) GW408.out)) | (show (Addr.add _ _).block ≠ _; rw [add_block]; exact Nat.ne_of_lt (Nat.lt_of_lt_of_le (by have := World.block_lt_of_cell? _ _ hw401_0; first | rwa [add_block] at this | exact this) GW408.out)) | (dsimp only; exact Nat.ne_of_lt (Nat.lt_of_lt_of_le (by have := World.block_lt_of_cell? _ _ hw401_0; first | rwa [add_block] at this | exact this) GW408.out))) _).trans (((cell_far (p := ⟨gb408, _, none⟩) (by first | exact Nat.ne_of_lt (Nat.lt_of_lt_of_le (by have := World.block_lt_of_cell? _ _ hw401_0; first | rwa [add_block] at this | exact this) GW408.out) | (rw [add_block]; exact Nat.ne_of_lt (Nat.lt_of_lt_of_le (by have := World.block_lt_of_cell? _ _ hw401_0; first | rwa [add_block] at this | exact this) GW408.out)) | (show (Addr.add _ _).block ≠ _; rw [add_block]; exact Nat.ne_of_lt (Nat.lt_of_lt_of_le (by have := World.block_lt_of_cell? _ _ hw401_0; first | rwa [add_block] at this | exact this) GW408.out)) | (dsimp only; exact Nat.ne_of_lt (Nat.lt_of_lt_of_le (by have := World.block_lt_of_cell? _ _ hw401_0; first | rwa [add_block] at this | exact this) GW408.out))) _).trans (hHeld.2.2.2.2.2.2.1)))), ((cell_far (p := ⟨gb408, _, none⟩) (by first | exact Nat.ne_of_lt (Nat.lt_of_lt_of_le (by have := World.block_lt_of_cell? _ _ hw401_1; first | rwa [add_block] at this | exact this) GW408.out) | (rw [add_block]; exact Nat.ne_of_lt (Nat.lt_of_lt_of_le (by have := World.block_lt_of_cell? _ _ hw401_1; first | rwa [add_block] at this | exact this) GW408.out)) | (show (Addr.add _ _).block ≠ _; rw [add_block]; exact Nat.ne_of_lt (Nat.lt_of_lt_of_le (by have := World.block_lt_of_cell? _ _ hw401_1; first | rwa [add_block] at this | exact this) GW408.out)) | (dsimp only; exact Nat.ne_of_lt (Nat.lt_of_lt_of_le (by have := World.block_lt_of_cell? _ _ hw401_1; first | rwa [add_block] at this | exact this) GW408.out))) _).trans (((cell_far (p := ⟨gb408, _, none⟩) (by first | exact Nat.ne_of_lt (Nat.lt_of_lt_of_le (by have := World.block_lt_of_cell? _ _ hw401_1; first | rwa [add_block] at this | exact this) GW408.out) | (rw [add_block]; exact Nat.ne_of_lt (Nat.lt_of_lt_of_le (by have := World.block_lt_of_cell? _ _ hw401_1; first | rwa [add_block] at this | exact this) GW408.out)) | (show (Addr.add _ _).block ≠ _; rw [add_block]; exact Nat.ne_of_lt (Nat.lt_of_lt_of_le (by have := World.block_lt_of_cell? _ _ hw401_1; first | rwa [add_block] at this | exact this) GW408.out)) | (dsimp only; exact Nat.ne_of_lt (Nat.lt_of_lt_of_le (by have := World.block_lt_of_cell? _ _ hw401_1; first | rwa [add_block] at this | exact this) GW408.out))) _).trans (hHeld.2.2.2.2.2.2.2.1)))), ((cell_far (p := ⟨gb408, _, none⟩) (by first | exact Nat.ne_of_lt (Nat.lt_of_lt_of_le (by have := World.block_lt_of_cell? _ _ hw401_2; first | rwa [add_block] at this | exact this) GW408.out) | (rw [add_block]; exact Nat.ne_of_lt (Nat.lt_of_lt_of_le (by have := World.block_lt_of_cell? _ _ hw401_2; first | rwa [add_block] at this | exact this) GW408.out)) | (show (Addr.add _ _).block ≠ _; rw [add_block]; exact Nat.ne_of_lt (Nat.lt_of_lt_of_le (by have := World.block_lt_of_cell? _ _ hw401_2; first | rwa [add_block] at this | exact this) GW408.out)) | (dsimp only; exact Nat.ne_of_lt (Nat.lt_of_lt_of_le (by have := World.block_lt_of_cell? _ _ hw401_2; first | rwa [add_block] at this | exact this) GW408.out))) _).trans (((cell_far (p := ⟨gb408, _, none⟩) (by first | exact Nat.ne_of_lt (Nat.lt_of_lt_of_le (by have := World.block_lt_of_cell? _ _ hw401_2; first | rwa [add_block] at this | exact this) GW408.out) | (rw [add_block]; exact Nat.ne_of_lt (Nat.lt_of_lt_of_le (by have := World.block_lt_of_cell? _ _ hw401_2; first | rwa [add_block] at this | exact this) GW408.out)) | (show (Addr.add _ _).block ≠ _; rw [add_block]; exact Nat.ne_of_lt (Nat.lt_of_lt_of_le (by have := World.block_lt_of_cell? _ _ hw401_2; first | rwa [add_block] at this | exact this) GW408.out)) | (dsimp only; exact Nat.ne_of_lt (Nat.lt_of_lt_of_le (by have := World.block_lt_of_cell? _ _ hw401_2; first | rwa [add_block] at this | exact this) GW408.out))) _).trans (hHeld.2.2.2.2.2.2.2.2))))⟩ (fun hHeld => ?_)
              clear hK K
              refine pure_ (i := 14) (N := some 8) (v := ?_) (a' := ?_) #[true, true, true, true, true, true, true, true, true, true, true, true, true, true, true, false] rfl rfl (any_of HT_.out (by kernel_rfl)) (fun _ _ _ h => h) (Or.inl ⟨by rfl, ?_⟩) ?_ ?_
              rotate_left
              · intro w'
                go_simp
                with_reducible rfl
              rotate_left
              · simp only [Act.put, List.setIfInBounds_toArray, List.set_cons_zero, List.set_cons_succ]
                rfl
              refine pure_ (i := 15) (N := some 9) (v := ?_) (a' := ?_) #[true, true, true, true, true, true, true, true, true, true, true, true, true, true, true, true] rfl rfl (any_of HT_.out (by kernel_rfl)) (fun _ _ _ h => h) (Or.inl ⟨by rfl, ?_⟩) ?_ ?_
              rotate_left
              · intro w'
                go_simp
                with_reducible rfl
              rotate_left
              · simp only [Act.put, List.setIfInBounds_toArray, List.set_cons_zero, List.set_cons_succ]
                rfl
              refine done_ (done_of HT_.out (by kernel_rfl)) ?_
              have hnb113 := NB400_399.out
              have hnc113 := NB399_400.out
              have hnb114 := NB400_408.out
              have hnc114 := NB408_400.out
              have hcz115_0 : w110.cell? ⟨gb400, 0, none⟩ = some (.int .i64 x401000_1) := (blk_cell BK400.out 0).trans rfl
              have hcz115_1 : w110.cell? ⟨gb400, 1, none⟩ = some (.string x401001_1) := (blk_cell BK400.out 1).trans rfl
              have hcz115_2 : w110.cell? ⟨gb400, 2, none⟩ = some (.bool x401002_1) := (blk_cell BK400.out 2).trans rfl
              have hcz115_3 : w110.cell? ⟨gb400, 3, none⟩ = some (.int .i64 x401003_1) := (blk_cell BK400.out 3).trans rfl
              have hcz115_4 : w110.cell? ⟨gb400, 4, none⟩ = some (.int .i64 x401004_1) := (blk_cell BK400.out 4).trans rfl
              have hcz115_5 : w110.cell? ⟨gb400, 5, none⟩ = some (.bool false) := (blk_cell BK400.out 5).trans rfl
              have hfz115_0 := blk_frozen BK400.out 0
              have hfz115_1 := blk_frozen BK400.out 1
              have hfz115_2 := blk_frozen BK400.out 2
              have hfz115_3 := blk_frozen BK400.out 3
              have hfz115_4 := blk_frozen BK400.out 4
              have hfz115_5 := blk_frozen BK400.out 5
              try go_wp2
              go_roundg k1
              case measure => have := HK1.out; omega
              case rel => exact ⟨(wrap64 (x6_1 + 1)), (x401000_1), (x401001_1), (x401002_1), (x401003_1), (x401004_1), (false), (by first | rfl | (simp; done) | (simp [*]; done)), H', ⟨by have := HK1.out; omega⟩, ⟨by (with_reducible repeat (first | refine blk_drewN ?_ _ | refine blk_drew ?_ | refine blk_alloc ?_ _)); refine blk_far ?_ NB399_400.out _; (with_reducible repeat (first | refine blk_drewN ?_ _ | refine blk_drew ?_ | refine blk_alloc ?_ _)); refine blk_far ?_ NB399_408.out _; (with_reducible repeat (first | refine blk_drewN ?_ _ | refine blk_drew ?_ | refine blk_alloc ?_ _)); refine blk_far ?_ NB399_408.out _; (with_reducible repeat (first | refine blk_drewN ?_ _ | refine blk_drew ?_ | refine blk_alloc ?_ _)); exact BK399.out⟩, ⟨by (with_reducible repeat (first | refine blk_drewN ?_ _ | refine blk_drew ?_ | refine blk_alloc ?_ _)); refine blk_put (cs := #[.int .i64 x401000_1, .string x401001_1, .bool x401002_1, .int .i64 x401003_1, .int .i64 x401004_1, .bool false]) ?_ 5 _ (by first | rfl | (rw [isE_nil]; rfl)); (with_reducible repeat (first | refine blk_drewN ?_ _ | refine blk_drew ?_ | refine blk_alloc ?_ _)); refine blk_far ?_ NB400_408.out _; (with_reducible repeat (first | refine blk_drewN ?_ _ | refine blk_drew ?_ | refine blk_alloc ?_ _)); refine blk_far ?_ NB400_408.out _; (with_reducible repeat (first | refine blk_drewN ?_ _ | refine blk_drew ?_ | refine blk_alloc ?_ _)); exact BK400.out⟩, ⟨by repeat (first | (with_reducible first | exact HB.out | apply below_alloc | apply pw_below_drewN | apply below_drew1 | refine below_set ?_ GE399.out | refine below_set ?_ GE400.out | refine below_set ?_ GE408.out) | exact HB.out)⟩⟩
        · rw [if_neg c8] at H
          exact absurd H (by simp)
      · rw [if_neg c7] at H
        have c7b0 : decide (x6_1 < (l1.length : Int)) = false := decide_eq_false c7
        clear c7
        simp only [Option.some.injEq, Prod.mk.injEq] at H
        obtain ⟨rfl, rfl, rfl, rfl, rfl, rfl⟩ := H
        have hnb116 := NB400_399.out
        have hnc116 := NB399_400.out
        have hcz117_0 : wr.cell? ⟨gb400, 0, none⟩ = some (.int .i64 x401000_1) := (blk_cell BK400.out 0).trans rfl
        have hcz117_1 : wr.cell? ⟨gb400, 1, none⟩ = some (.string x401001_1) := (blk_cell BK400.out 1).trans rfl
        have hcz117_2 : wr.cell? ⟨gb400, 2, none⟩ = some (.bool x401002_1) := (blk_cell BK400.out 2).trans rfl
        have hcz117_3 : wr.cell? ⟨gb400, 3, none⟩ = some (.int .i64 x401003_1) := (blk_cell BK400.out 3).trans rfl
        have hcz117_4 : wr.cell? ⟨gb400, 4, none⟩ = some (.int .i64 x401004_1) := (blk_cell BK400.out 4).trans rfl
        have hcz117_5 : wr.cell? ⟨gb400, 5, none⟩ = some (.bool x401005_1) := (blk_cell BK400.out 5).trans rfl
        have hfz117_0 := blk_frozen BK400.out 0
        have hfz117_1 := blk_frozen BK400.out 1
        have hfz117_2 := blk_frozen BK400.out 2
        have hfz117_3 := blk_frozen BK400.out 3
        have hfz117_4 := blk_frozen BK400.out 4
        have hfz117_5 := blk_frozen BK400.out 5
        have hcz118_0 : wr.cell? ⟨gb399, 0, none⟩ = some (.int .i64 0) := (blk_cell BK399.out 0).trans rfl
        have hcz118_1 : wr.cell? ⟨gb399, 1, none⟩ = some (.string (⟨#[]⟩ : ByteArray)) := (blk_cell BK399.out 1).trans rfl
        have hcz118_2 : wr.cell? ⟨gb399, 2, none⟩ = some (.bool false) := (blk_cell BK399.out 2).trans rfl
        have hcz118_3 : wr.cell? ⟨gb399, 3, none⟩ = some (.int .i64 0) := (blk_cell BK399.out 3).trans rfl
        have hcz118_4 : wr.cell? ⟨gb399, 4, none⟩ = some (.int .i64 0) := (blk_cell BK399.out 4).trans rfl
        have hcz118_5 : wr.cell? ⟨gb399, 5, none⟩ = some (.bool false) := (blk_cell BK399.out 5).trans rfl
        have hfz118_0 := blk_frozen BK399.out 0
        have hfz118_1 := blk_frozen BK399.out 1
        have hfz118_2 := blk_frozen BK399.out 2
        have hfz118_3 := blk_frozen BK399.out 3
        have hfz118_4 := blk_frozen BK399.out 4
        have hfz118_5 := blk_frozen BK399.out 5
        go_wp2
        refine bodyPost_ret (results_cell_row rfl _ _ gb399 58 #[.int .i64 x401000_1, .string x401001_1, .bool x401002_1, .int .i64 x401003_1, .int .i64 x401004_1, .bool x401005_1] (0, 0) _ rfl (by (with_reducible repeat (first | refine blk_drewN ?_ _ | refine blk_drew ?_ | refine blk_alloc ?_ _)); refine blk_put (cs := #[.int .i64 x401000_1, .string x401001_1, .bool x401002_1, .int .i64 x401003_1, .int .i64 x401004_1, .bool false]) ?_ 5 _ rfl; (with_reducible repeat (first | refine blk_drewN ?_ _ | refine blk_drew ?_ | refine blk_alloc ?_ _)); refine blk_put (cs := #[.int .i64 x401000_1, .string x401001_1, .bool x401002_1, .int .i64 x401003_1, .int .i64 0, .bool false]) ?_ 4 _ rfl; (with_reducible repeat (first | refine blk_drewN ?_ _ | refine blk_drew ?_ | refine blk_alloc ?_ _)); refine blk_put (cs := #[.int .i64 x401000_1, .string x401001_1, .bool x401002_1, .int .i64 0, .int .i64 0, .bool false]) ?_ 3 _ rfl; (with_reducible repeat (first | refine blk_drewN ?_ _ | refine blk_drew ?_ | refine blk_alloc ?_ _)); refine blk_put (cs := #[.int .i64 x401000_1, .string x401001_1, .bool false, .int .i64 0, .int .i64 0, .bool false]) ?_ 2 _ rfl; (with_reducible repeat (first | refine blk_drewN ?_ _ | refine blk_drew ?_ | refine blk_alloc ?_ _)); refine blk_put (cs := #[.int .i64 x401000_1, .string (⟨#[]⟩ : ByteArray), .bool false, .int .i64 0, .int .i64 0, .bool false]) ?_ 1 _ rfl; (with_reducible repeat (first | refine blk_drewN ?_ _ | refine blk_drew ?_ | refine blk_alloc ?_ _)); refine blk_put (cs := #[.int .i64 0, .string (⟨#[]⟩ : ByteArray), .bool false, .int .i64 0, .int .i64 0, .bool false]) ?_ 0 _ rfl; (with_reducible repeat (first | refine blk_drewN ?_ _ | refine blk_drew ?_ | refine blk_alloc ?_ _)); exact BK399.out) Tryd.underlying58 rfl (by kernel_rfl)) rfl ?_
        exact ⟨by first | rfl | (simp [errW_none, errW_some] <;> rfl) | (simp [*, errW_none, errW_some] <;> rfl), by repeat (first | (with_reducible first | exact HB.out | apply below_alloc | apply pw_below_drewN | apply below_drew1 | refine below_set ?_ GE399.out | refine below_set ?_ GE400.out) | exact HB.out)⟩
end Go.Proofs.YthknfclhkmehgaaDoor.Fn
