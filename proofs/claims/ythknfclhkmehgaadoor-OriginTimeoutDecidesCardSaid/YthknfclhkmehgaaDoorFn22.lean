-- printed by a program of this session, out of the translation; Lean checks it
import Derived.Test.YthknfclhkmehgaaDoorFn0
import Derived.Test.YthknfclhkmehgaaDoorFn2
import Derived.Test.YthknfclhkmehgaaDoorFn4
import Derived.Test.YthknfclhkmehgaaDoorEDial
import Derived.Test.YthknfclhkmehgaaDoorEOdial
import Derived.Test.YthknfclhkmehgaaDoorESaneO
import Derived.Test.YthknfclhkmehgaaDoorEStep
namespace Go.Proofs.YthknfclhkmehgaaDoor.Fn
open Go.RowKit Go.Proofs.YthknfclhkmehgaaDoorW.PrintWords Go.Proofs.YthknfclhkmehgaaDoorW.PrintLast Go.Proofs.YthknfclhkmehgaaDoorW.PrintMore
attribute [local go_sem] max2_int min2_int max_two min_two max_three min_three max_four min_four   -- for this text's walks alone
set_option linter.unusedVariables false
set_option linter.unusedSimpArgs false

attribute [local go_sem high] eqA45
/-! ### crossbarlaw16_OriginTimeoutDecides: function 13 -/
mutual
noncomputable def crossbarlaw16_OriginTimeoutDecides.j0 : Nat → List (S35) → ByteArray → Bool → Int → ByteArray → Option (Bool)
  | 0, _, _, _, _, _ => none
  | k + 1, x0, x1, x32, x519000, x519001 => if x32 = true then (some true) else ((origin_Step.f k x519000 x519001 x0 4 0 0).bind fun bt519 => ((dialplan_Analyze.f k x0 x1 true).bind fun bt526 => (if bt519.2.2.2 = 0 then (if bt526.2.2 = 0 then (crossbarlaw16_OriginTimeoutDecides.j1 k x1 bt519.2.2.1 ((bt519.2.2.1.length : Int) == 0) bt519.1 bt519.2.1 bt526.1 bt526.2.1) else (crossbarlaw16_OriginTimeoutDecides.j1 k x1 bt519.2.2.1 true bt519.1 bt519.2.1 bt526.1 bt526.2.1)) else (crossbarlaw16_OriginTimeoutDecides.j1 k x1 bt519.2.2.1 true bt519.1 bt519.2.1 bt526.1 bt526.2.1))))
noncomputable def crossbarlaw16_OriginTimeoutDecides.j1 : Nat → ByteArray → List (S62) → Bool → Int → ByteArray → Int → Int → Option (Bool)
  | 0, _, _, _, _, _, _, _ => none
  | k + 1, x1, x9, x57, x526000, x526001, x530000, x530001 => if x57 = true then (some false) else (if x530000 = 2 then (if x1.toList = ([] : List UInt8) then (if (x526000 == 5 && (x526001.toList == ([] : List UInt8))) = true then (if (x9.length : Int) = 1 then (if 0 < (x9.length : Int) then (if ((rd_T62 x9 0).f0) = 3 then (some ((((rd_T62 x9 0).f1) == 102) == (x1.toList == ([] : List UInt8)))) else (some false)) else (none)) else (some false)) else (some false)) else (if 0 < (x9.length : Int) then (if ((rd_T62 x9 0).f2).toList = x1.toList then (if x526000 = 2 then (if ((rd_T62 x9 0).f0) = 5 then (if ((rd_T62 x9 0).f3) = x530001 then (some true) else (if x526000 = 5 then (some (((rd_T62 x9 0).f0) == 6)) else (some false))) else (if x526000 = 5 then (some (((rd_T62 x9 0).f0) == 6)) else (some false))) else (if x526000 = 5 then (some (((rd_T62 x9 0).f0) == 6)) else (some false))) else (some false)) else (none))) else (if (x526000 == 5 && (x526001.toList == ([] : List UInt8))) = true then (if (x9.length : Int) = 1 then (if 0 < (x9.length : Int) then (if ((rd_T62 x9 0).f0) = 3 then (some ((((rd_T62 x9 0).f1) == 102) == (x1.toList == ([] : List UInt8)))) else (some false)) else (none)) else (some false)) else (some false)))
end
noncomputable def crossbarlaw16_OriginTimeoutDecides.f (k : Nat) (l0 : List (S35)) (a1 : ByteArray) : Option (Bool) := (crossbarlaw16_sane.f).bind fun t510 => (if t510 = true then ((crossbarref16_Few.f k l0 a1).bind fun t511 => (if t511 = true then ((origin_Dial.f k l0 a1).bind fun bt512 => (if bt512.2.2.2 = 0 then (crossbarlaw16_OriginTimeoutDecides.j0 k l0 a1 (bt512.1 != 1) bt512.1 bt512.2.1) else (crossbarlaw16_OriginTimeoutDecides.j0 k l0 a1 true bt512.1 bt512.2.1))) else (some true))) else (some false))
theorem crossbarlaw16_OriginTimeoutDecides.mono_l : ∀ k, (∀ y0 y1 y2 y3 y4, LeO (crossbarlaw16_OriginTimeoutDecides.j0 k y0 y1 y2 y3 y4) (crossbarlaw16_OriginTimeoutDecides.j0 (k + 1) y0 y1 y2 y3 y4)) ∧ (∀ y0 y1 y2 y3 y4 y5 y6, LeO (crossbarlaw16_OriginTimeoutDecides.j1 k y0 y1 y2 y3 y4 y5 y6) (crossbarlaw16_OriginTimeoutDecides.j1 (k + 1) y0 y1 y2 y3 y4 y5 y6))
  | 0 => ⟨fun _ _ _ _ _ r h => by simp [crossbarlaw16_OriginTimeoutDecides.j0] at h, fun _ _ _ _ _ _ _ r h => by simp [crossbarlaw16_OriginTimeoutDecides.j1] at h⟩
  | k + 1 => by
    obtain ⟨ih0, ih1⟩ := crossbarlaw16_OriginTimeoutDecides.mono_l k
    refine ⟨?_, ?_⟩
    · intro y0 y1 y2 y3 y4
      unfold crossbarlaw16_OriginTimeoutDecides.j0
      repeat' first
      | (with_reducible exact ih0 _ _ _ _ _)
      | (with_reducible exact ih1 _ _ _ _ _ _ _)
      | (with_reducible exact crossbarref16_Few.mono _ _ _)
      | (with_reducible exact dialplan_Analyze.mono _ _ _ _)
      | (with_reducible exact origin_Dial.mono _ _ _)
      | (with_reducible exact origin_Step.mono _ _ _ _ _ _ _)
      | (with_reducible exact LeO.refl _)
      | (with_reducible exact LeO.none _)
      | (with_reducible refine LeO.ite ?_ ?_)
      | (with_reducible refine LeO.bind ?_ (fun _ => ?_))
      | exact ih0 _ _ _ _ _
      | exact ih1 _ _ _ _ _ _ _
      | exact crossbarref16_Few.mono _ _ _
      | exact dialplan_Analyze.mono _ _ _ _
      | exact origin_Dial.mono _ _ _
      | exact origin_Step.mono _ _ _ _ _ _ _
      | exact LeO.none _
      | refine LeO.ite ?_ ?_
      | refine LeO.bind ?_ (fun _ => ?_)
    · intro y0 y1 y2 y3 y4 y5 y6
      unfold crossbarlaw16_OriginTimeoutDecides.j1
      repeat' first
      | (with_reducible exact ih0 _ _ _ _ _)
      | (with_reducible exact ih1 _ _ _ _ _ _ _)
      | (with_reducible exact crossbarref16_Few.mono _ _ _)
      | (with_reducible exact dialplan_Analyze.mono _ _ _ _)
      | (with_reducible exact origin_Dial.mono _ _ _)
      | (with_reducible exact origin_Step.mono _ _ _ _ _ _ _)
      | (with_reducible exact LeO.refl _)
      | (with_reducible exact LeO.none _)
      | (with_reducible refine LeO.ite ?_ ?_)
      | (with_reducible refine LeO.bind ?_ (fun _ => ?_))
      | exact ih0 _ _ _ _ _
      | exact ih1 _ _ _ _ _ _ _
      | exact crossbarref16_Few.mono _ _ _
      | exact dialplan_Analyze.mono _ _ _ _
      | exact origin_Dial.mono _ _ _
      | exact origin_Step.mono _ _ _ _ _ _ _
      | exact LeO.none _
      | refine LeO.ite ?_ ?_
      | refine LeO.bind ?_ (fun _ => ?_)
theorem crossbarlaw16_OriginTimeoutDecides.mono : ∀ a0 a1 k, LeO (crossbarlaw16_OriginTimeoutDecides.f k a0 a1) (crossbarlaw16_OriginTimeoutDecides.f (k + 1) a0 a1) := by
  intro a0 a1 k
  obtain ⟨ih0, ih1⟩ := crossbarlaw16_OriginTimeoutDecides.mono_l k
  unfold crossbarlaw16_OriginTimeoutDecides.f
  repeat' first
      | (with_reducible exact ih0 _ _ _ _ _)
      | (with_reducible exact ih1 _ _ _ _ _ _ _)
      | (with_reducible exact crossbarref16_Few.mono _ _ _)
      | (with_reducible exact dialplan_Analyze.mono _ _ _ _)
      | (with_reducible exact origin_Dial.mono _ _ _)
      | (with_reducible exact origin_Step.mono _ _ _ _ _ _ _)
      | (with_reducible exact LeO.refl _)
      | (with_reducible exact LeO.none _)
      | (with_reducible refine LeO.ite ?_ ?_)
      | (with_reducible refine LeO.bind ?_ (fun _ => ?_))
      | exact ih0 _ _ _ _ _
      | exact ih1 _ _ _ _ _ _ _
      | exact crossbarref16_Few.mono _ _ _
      | exact dialplan_Analyze.mono _ _ _ _
      | exact origin_Dial.mono _ _ _
      | exact origin_Step.mono _ _ _ _ _ _ _
      | exact LeO.none _
      | refine LeO.ite ?_ ?_
      | refine LeO.bind ?_ (fun _ => ?_)
set_option maxHeartbeats 8000000 in
set_option maxRecDepth 100000 in
theorem crossbarlaw16_OriginTimeoutDecides.calls (k : Nat) (A0 : Option Addr) (c0 : Nat) (l0 : List (S35)) (a1 : ByteArray) (r : Bool) (ht : r = true) (w : World) (hr0 : Kd.C k35 w A0 l0.length l0) (hc0 : l0.length ≤ c0) (h : crossbarlaw16_OriginTimeoutDecides.f k l0 a1 = some r) :
    Calls Tryd.prog 13 #[.slice A0 l0.length c0, .string a1] w fun e w' => e = .returned (.bool r) ∧ Below w.heap.size w w' := by
  have hu45 := Tryd.underlying45
  have hu47 := Tryd.underlying47
  have hu26 := Tryd.underlying26
  have HR0 := Aside0.mk hr0
  have HC0 := Aside0.mk hc0
  clear hr0 hc0
  have HB := Aside0.mk (Below.refl w.heap.size w)
  have H : ((crossbarlaw16_sane.f).bind fun t510 => (if t510 = true then ((crossbarref16_Few.f k l0 a1).bind fun t511 => (if t511 = true then ((origin_Dial.f k l0 a1).bind fun bt512 => (if bt512.2.2.2 = 0 then (crossbarlaw16_OriginTimeoutDecides.j0 k l0 a1 (bt512.1 != 1) bt512.1 bt512.2.1) else (crossbarlaw16_OriginTimeoutDecides.j0 k l0 a1 true bt512.1 bt512.2.1))) else (some true))) else (some false))) = some r := h
  clear h
  replace H := Option.bind_eq_some_iff.mp H
  obtain ⟨t510, A30, H⟩ := H
  replace H : (if t510 = true then ((crossbarref16_Few.f k l0 a1).bind fun t511 => (if t511 = true then ((origin_Dial.f k l0 a1).bind fun bt512 => (if bt512.2.2.2 = 0 then (crossbarlaw16_OriginTimeoutDecides.j0 k l0 a1 (bt512.1 != 1) bt512.1 bt512.2.1) else (crossbarlaw16_OriginTimeoutDecides.j0 k l0 a1 true bt512.1 bt512.2.1))) else (some true))) else (some false)) = some r := H
  have A3 := Aside0.mk A30
  clear A30
  by_cases c4 : t510 = true
  · subst c4
    have H1 : ((crossbarref16_Few.f k l0 a1).bind fun t511 => (if t511 = true then ((origin_Dial.f k l0 a1).bind fun bt512 => (if bt512.2.2.2 = 0 then (crossbarlaw16_OriginTimeoutDecides.j0 k l0 a1 (bt512.1 != 1) bt512.1 bt512.2.1) else (crossbarlaw16_OriginTimeoutDecides.j0 k l0 a1 true bt512.1 bt512.2.1))) else (some true))) = some r := by rw [if_pos rfl] at H; exact H
    clear H
    have H := H1
    clear H1
    replace H := Option.bind_eq_some_iff.mp H
    obtain ⟨t511, A50, H⟩ := H
    replace H : (if t511 = true then ((origin_Dial.f k l0 a1).bind fun bt512 => (if bt512.2.2.2 = 0 then (crossbarlaw16_OriginTimeoutDecides.j0 k l0 a1 (bt512.1 != 1) bt512.1 bt512.2.1) else (crossbarlaw16_OriginTimeoutDecides.j0 k l0 a1 true bt512.1 bt512.2.1))) else (some true)) = some r := H
    have A5 := Aside0.mk A50
    clear A50
    by_cases c6 : t511 = true
    · subst c6
      have H1 : ((origin_Dial.f k l0 a1).bind fun bt512 => (if bt512.2.2.2 = 0 then (crossbarlaw16_OriginTimeoutDecides.j0 k l0 a1 (bt512.1 != 1) bt512.1 bt512.2.1) else (crossbarlaw16_OriginTimeoutDecides.j0 k l0 a1 true bt512.1 bt512.2.1))) = some r := by rw [if_pos rfl] at H; exact H
      clear H
      have H := H1
      clear H1
      replace H := Option.bind_eq_some_iff.mp H
      obtain ⟨⟨t512, t513, t514, t517⟩, A70, H⟩ := H
      replace H : (if t517 = 0 then (crossbarlaw16_OriginTimeoutDecides.j0 k l0 a1 (t512 != 1) t512 t513) else (crossbarlaw16_OriginTimeoutDecides.j0 k l0 a1 true t512 t513)) = some r := H
      have A7 := Aside0.mk A70
      clear A70
      have HC8 := Aside0.mk H
      clear H
      go_enter Tryd.func13, Tryd.ntmps13
      go_upto_region 6 with (first | (go_at_call 22; (with_reducible refine (crossbarlaw16_sane.calls  true _ A3.out).mono ?_); rintro e w9 ⟨rfl, hb⟩; have n0_ := Aside0.mk (below_step (by repeat (first | (with_reducible first | exact HB.out | apply below_alloc | apply pw_below_drewN | apply below_drew1) | exact HB.out)) hb); clear HB; have HB := n0_; clear n0_; (try clear hb); (try clear hb2); (try clear hk); (try clear hi)) | (go_at_call 23; (with_reducible refine (crossbarref16_Few.calls k _ _ l0 a1 true _ ?side1 ?side2 A5.out).mono ?_); (case side1 => repeat (first | exact (Kd.C_below HR0.out HB.out) | (with_reducible refine Kd.C_alloc ?_ _) | (with_reducible refine Kd.C_drewN ?_ _) | (with_reducible refine Kd.C_drew ?_))); (case side2 => exact HC0.out); rintro e w' ⟨rfl, ⟨nd, rfl⟩⟩; (try first | exact ⟨rfl, _, World.drewN_drewN _ _ _⟩ | exact ⟨rfl, _, Eq.trans (World.drewN_drewN _ _ _) (congrArg (World.drewN _) (Nat.add_assoc _ _ _))⟩)) | (go_at_call 29; (with_reducible refine (origin_Dial.calls k _ _ l0 a1 t512 t513 t514 t517 _ ?side1 ?side2 A7.out).mono ?_); (case side1 => repeat (first | exact (Kd.C_below HR0.out (by repeat (first | (with_reducible first | exact HB.out | apply below_alloc | apply pw_below_drewN | apply below_drew1) | exact HB.out))) | (with_reducible refine Kd.C_alloc ?_ _) | (with_reducible refine Kd.C_drewN ?_ _) | (with_reducible refine Kd.C_drew ?_))); (case side2 => exact HC0.out); rintro e w10 ⟨v515, rfl, ho0, hb⟩; have n0_ := Aside0.mk (Kd.R_lower ho0 (below_size (by repeat (first | (with_reducible first | exact HB.out | apply below_alloc | apply pw_below_drewN | apply below_drew1) | exact HB.out)))); have n1_ := Aside0.mk (below_step (by repeat (first | (with_reducible first | exact HB.out | apply below_alloc | apply pw_below_drewN | apply below_drew1) | exact HB.out)) hb); clear HB; have HO516 := n0_; have HB := n1_; clear n0_ n1_; (try clear hb); (try clear hb2); (try clear hk); (try clear hi); (try clear ho0)) | ((with_reducible refine gate_dst (N := 5) rfl ?_); (try (refine gate_guard (by rfl) ?_; dsimp only)); refine box_event ?hg (N := 5) ?hd (cs := #[.int .i64 0, .string (⟨#[]⟩ : ByteArray)]) (t := 45) ?hr ?_; (case hd => rfl); (case hg => rfl); (case hr => first | (go_simp; done) | (go_simp; rfl)); intro gb518 hg w11 hbox hb; have n0_ := Aside0.mk (Kd.R_below (by (with_reducible repeat (first | apply Kd.R_alloc | apply Kd.R_drewN | apply Kd.R_drew)); exact HO516.out) hb); have n1_ := Aside0.mk (below_step (by repeat (first | (with_reducible first | exact HB.out | apply below_alloc | apply pw_below_drewN | apply below_drew1) | exact HB.out)) hb); have n2_ := Aside0.mk (hbox); have n3_ := Aside0.mk ((by rw [hg]; exact (below_size (by repeat (first | (with_reducible first | exact HB.out | apply below_alloc | apply pw_below_drewN | apply below_drew1) | exact HB.out))) : w.heap.size ≤ gb518)); have n4_ := Aside0.mk ((by rw [hg]; exact (below_size (by repeat (first | (with_reducible first | exact HB.out | apply below_alloc | apply pw_below_drewN | apply below_drew1) | exact HB.out))) : w.heap.size ≤ gb518)); clear HO516; clear HB; have HO516 := n0_; have HB := n1_; have BK518 := n2_; have GW518 := n3_; have GE518 := n4_; clear n0_ n1_ n2_ n3_ n4_; clear hb hbox hg; have hcz12_0 : w11.cell? ⟨gb518, 0, none⟩ = some (.int .i64 0) := (blk_cell BK518.out 0).trans rfl; have hcz12_1 : w11.cell? ⟨gb518, 1, none⟩ = some (.string (⟨#[]⟩ : ByteArray)) := (blk_cell BK518.out 1).trans rfl; have hfz12_0 := blk_frozen BK518.out 0; have hfz12_1 := blk_frozen BK518.out 1))
      repeat (go_quiet (first | (go_at_call 22; (with_reducible refine (crossbarlaw16_sane.calls  true _ A3.out).mono ?_); rintro e w9 ⟨rfl, hb⟩; have n0_ := Aside0.mk (below_step (by repeat (first | (with_reducible first | exact HB.out | apply below_alloc | apply pw_below_drewN | apply below_drew1) | exact HB.out)) hb); clear HB; have HB := n0_; clear n0_; (try clear hb); (try clear hb2); (try clear hk); (try clear hi)) | (go_at_call 23; (with_reducible refine (crossbarref16_Few.calls k _ _ l0 a1 true _ ?side1 ?side2 A5.out).mono ?_); (case side1 => repeat (first | exact (Kd.C_below HR0.out HB.out) | (with_reducible refine Kd.C_alloc ?_ _) | (with_reducible refine Kd.C_drewN ?_ _) | (with_reducible refine Kd.C_drew ?_))); (case side2 => exact HC0.out); rintro e w' ⟨rfl, ⟨nd, rfl⟩⟩; (try first | exact ⟨rfl, _, World.drewN_drewN _ _ _⟩ | exact ⟨rfl, _, Eq.trans (World.drewN_drewN _ _ _) (congrArg (World.drewN _) (Nat.add_assoc _ _ _))⟩)) | (go_at_call 29; (with_reducible refine (origin_Dial.calls k _ _ l0 a1 t512 t513 t514 t517 _ ?side1 ?side2 A7.out).mono ?_); (case side1 => repeat (first | exact (Kd.C_below HR0.out (by repeat (first | (with_reducible first | exact HB.out | apply below_alloc | apply pw_below_drewN | apply below_drew1) | exact HB.out))) | (with_reducible refine Kd.C_alloc ?_ _) | (with_reducible refine Kd.C_drewN ?_ _) | (with_reducible refine Kd.C_drew ?_))); (case side2 => exact HC0.out); rintro e w10 ⟨v515, rfl, ho0, hb⟩; have n0_ := Aside0.mk (Kd.R_lower ho0 (below_size (by repeat (first | (with_reducible first | exact HB.out | apply below_alloc | apply pw_below_drewN | apply below_drew1) | exact HB.out)))); have n1_ := Aside0.mk (below_step (by repeat (first | (with_reducible first | exact HB.out | apply below_alloc | apply pw_below_drewN | apply below_drew1) | exact HB.out)) hb); clear HB; have HO516 := n0_; have HB := n1_; clear n0_ n1_; (try clear hb); (try clear hb2); (try clear hk); (try clear hi); (try clear ho0)) | ((with_reducible refine gate_dst (N := 5) rfl ?_); (try (refine gate_guard (by rfl) ?_; dsimp only)); refine box_event ?hg (N := 5) ?hd (cs := #[.int .i64 0, .string (⟨#[]⟩ : ByteArray)]) (t := 45) ?hr ?_; (case hd => rfl); (case hg => rfl); (case hr => first | (go_simp; done) | (go_simp; rfl)); intro gb518 hg w11 hbox hb; have n0_ := Aside0.mk (Kd.R_below (by (with_reducible repeat (first | apply Kd.R_alloc | apply Kd.R_drewN | apply Kd.R_drew)); exact HO516.out) hb); have n1_ := Aside0.mk (below_step (by repeat (first | (with_reducible first | exact HB.out | apply below_alloc | apply pw_below_drewN | apply below_drew1) | exact HB.out)) hb); have n2_ := Aside0.mk (hbox); have n3_ := Aside0.mk ((by rw [hg]; exact (below_size (by repeat (first | (with_reducible first | exact HB.out | apply below_alloc | apply pw_below_drewN | apply below_drew1) | exact HB.out))) : w.heap.size ≤ gb518)); have n4_ := Aside0.mk ((by rw [hg]; exact (below_size (by repeat (first | (with_reducible first | exact HB.out | apply below_alloc | apply pw_below_drewN | apply below_drew1) | exact HB.out))) : w.heap.size ≤ gb518)); clear HO516; clear HB; have HO516 := n0_; have HB := n1_; have BK518 := n2_; have GW518 := n3_; have GE518 := n4_; clear n0_ n1_ n2_ n3_ n4_; clear hb hbox hg; have hcz12_0 : w11.cell? ⟨gb518, 0, none⟩ = some (.int .i64 0) := (blk_cell BK518.out 0).trans rfl; have hcz12_1 : w11.cell? ⟨gb518, 1, none⟩ = some (.string (⟨#[]⟩ : ByteArray)) := (blk_cell BK518.out 1).trans rfl; have hfz12_0 := blk_frozen BK518.out 0; have hfz12_1 := blk_frozen BK518.out 1)); go_upto_region 6 with (first | (go_at_call 22; (with_reducible refine (crossbarlaw16_sane.calls  true _ A3.out).mono ?_); rintro e w9 ⟨rfl, hb⟩; have n0_ := Aside0.mk (below_step (by repeat (first | (with_reducible first | exact HB.out | apply below_alloc | apply pw_below_drewN | apply below_drew1) | exact HB.out)) hb); clear HB; have HB := n0_; clear n0_; (try clear hb); (try clear hb2); (try clear hk); (try clear hi)) | (go_at_call 23; (with_reducible refine (crossbarref16_Few.calls k _ _ l0 a1 true _ ?side1 ?side2 A5.out).mono ?_); (case side1 => repeat (first | exact (Kd.C_below HR0.out HB.out) | (with_reducible refine Kd.C_alloc ?_ _) | (with_reducible refine Kd.C_drewN ?_ _) | (with_reducible refine Kd.C_drew ?_))); (case side2 => exact HC0.out); rintro e w' ⟨rfl, ⟨nd, rfl⟩⟩; (try first | exact ⟨rfl, _, World.drewN_drewN _ _ _⟩ | exact ⟨rfl, _, Eq.trans (World.drewN_drewN _ _ _) (congrArg (World.drewN _) (Nat.add_assoc _ _ _))⟩)) | (go_at_call 29; (with_reducible refine (origin_Dial.calls k _ _ l0 a1 t512 t513 t514 t517 _ ?side1 ?side2 A7.out).mono ?_); (case side1 => repeat (first | exact (Kd.C_below HR0.out (by repeat (first | (with_reducible first | exact HB.out | apply below_alloc | apply pw_below_drewN | apply below_drew1) | exact HB.out))) | (with_reducible refine Kd.C_alloc ?_ _) | (with_reducible refine Kd.C_drewN ?_ _) | (with_reducible refine Kd.C_drew ?_))); (case side2 => exact HC0.out); rintro e w10 ⟨v515, rfl, ho0, hb⟩; have n0_ := Aside0.mk (Kd.R_lower ho0 (below_size (by repeat (first | (with_reducible first | exact HB.out | apply below_alloc | apply pw_below_drewN | apply below_drew1) | exact HB.out)))); have n1_ := Aside0.mk (below_step (by repeat (first | (with_reducible first | exact HB.out | apply below_alloc | apply pw_below_drewN | apply below_drew1) | exact HB.out)) hb); clear HB; have HO516 := n0_; have HB := n1_; clear n0_ n1_; (try clear hb); (try clear hb2); (try clear hk); (try clear hi); (try clear ho0)) | ((with_reducible refine gate_dst (N := 5) rfl ?_); (try (refine gate_guard (by rfl) ?_; dsimp only)); refine box_event ?hg (N := 5) ?hd (cs := #[.int .i64 0, .string (⟨#[]⟩ : ByteArray)]) (t := 45) ?hr ?_; (case hd => rfl); (case hg => rfl); (case hr => first | (go_simp; done) | (go_simp; rfl)); intro gb518 hg w11 hbox hb; have n0_ := Aside0.mk (Kd.R_below (by (with_reducible repeat (first | apply Kd.R_alloc | apply Kd.R_drewN | apply Kd.R_drew)); exact HO516.out) hb); have n1_ := Aside0.mk (below_step (by repeat (first | (with_reducible first | exact HB.out | apply below_alloc | apply pw_below_drewN | apply below_drew1) | exact HB.out)) hb); have n2_ := Aside0.mk (hbox); have n3_ := Aside0.mk ((by rw [hg]; exact (below_size (by repeat (first | (with_reducible first | exact HB.out | apply below_alloc | apply pw_below_drewN | apply below_drew1) | exact HB.out))) : w.heap.size ≤ gb518)); have n4_ := Aside0.mk ((by rw [hg]; exact (below_size (by repeat (first | (with_reducible first | exact HB.out | apply below_alloc | apply pw_below_drewN | apply below_drew1) | exact HB.out))) : w.heap.size ≤ gb518)); clear HO516; clear HB; have HO516 := n0_; have HB := n1_; have BK518 := n2_; have GW518 := n3_; have GE518 := n4_; clear n0_ n1_ n2_ n3_ n4_; clear hb hbox hg; have hcz12_0 : w11.cell? ⟨gb518, 0, none⟩ = some (.int .i64 0) := (blk_cell BK518.out 0).trans rfl; have hcz12_1 : w11.cell? ⟨gb518, 1, none⟩ = some (.string (⟨#[]⟩ : ByteArray)) := (blk_cell BK518.out 1).trans rfl; have hfz12_0 := blk_frozen BK518.out 0; have hfz12_1 := blk_frozen BK518.out 1)))
      (try simp only [Act.put, List.setIfInBounds_toArray, List.set_cons_zero, List.set_cons_succ])
      go_cut [32] (fun v32 wc => ∃ (kq : Nat) (x32_7 : Bool), v32 = .bool x32_7 ∧ Aside0 (crossbarlaw16_OriginTimeoutDecides.j0 kq l0 a1 x32_7 t512 t513 = some r) ∧ Aside0 (kq ≤ k) ∧ Aside0 (wc.heap[gb518]? = some (.cells #[.int .i64 t512, .string t513] 45 (0, 0))) ∧ Aside0 (Below w.heap.size w wc))
      case first =>
        have H := HC8.out
        clear HC8
        by_cases c13 : t517 = 0
        · rw [if_pos c13] at H
          have c13b0 : (t517 == 0) = true := beq_iff_eq.mpr c13
          have c13b1 : (t517 != 0) = false := bne_eq_false_iff_eq.mpr c13
          clear c13
          (first | rw [c13b0] | (simp only [i64_w, i32_w]; rw [c13b0]) | skip)
          have H' := Aside0.mk H
          clear H
          have hcz14_0 : w11.cell? ⟨gb518, 0, none⟩ = some (.int .i64 0) := (blk_cell BK518.out 0).trans rfl
          have hcz14_1 : w11.cell? ⟨gb518, 1, none⟩ = some (.string (⟨#[]⟩ : ByteArray)) := (blk_cell BK518.out 1).trans rfl
          have hfz14_0 := blk_frozen BK518.out 0
          have hfz14_1 := blk_frozen BK518.out 1
          go_wp2
          repeat (go_quiet (fail); try go_wp2)
          go_meet
          case rel => exact ⟨_, ((t512 != 1)), (by first | rfl | (simp; done) | (simp [*]; done)), H', ⟨by first | omega | exact Nat.le_refl _⟩, ⟨by (with_reducible repeat (first | refine blk_drewN ?_ _ | refine blk_drew ?_ | refine blk_alloc ?_ _)); refine blk_put (cs := #[.int .i64 t512, .string (⟨#[]⟩ : ByteArray)]) ?_ 1 _ rfl; (with_reducible repeat (first | refine blk_drewN ?_ _ | refine blk_drew ?_ | refine blk_alloc ?_ _)); refine blk_put (cs := #[.int .i64 0, .string (⟨#[]⟩ : ByteArray)]) ?_ 0 _ rfl; (with_reducible repeat (first | refine blk_drewN ?_ _ | refine blk_drew ?_ | refine blk_alloc ?_ _)); exact BK518.out⟩, ⟨by repeat (first | (with_reducible first | exact HB.out | apply below_alloc | apply pw_below_drewN | apply below_drew1 | refine below_set ?_ GE518.out) | exact HB.out)⟩⟩
        · rw [if_neg c13] at H
          have c13b0 : (t517 == 0) = false := beq_eq_false_iff_ne.mpr c13
          have c13b1 : (t517 != 0) = true := bne_iff_ne.mpr c13
          (first | rw [c13b0] | (simp only [i64_w, i32_w]; rw [c13b0]) | skip)
          have H' := Aside0.mk H
          clear H
          go_wp2
          repeat (go_quiet (fail); try go_wp2)
          go_meet
          case rel => exact ⟨_, (true), (by first | rfl | (simp; done) | (simp [*]; done)), H', ⟨by first | omega | exact Nat.le_refl _⟩, ⟨by (with_reducible repeat (first | refine blk_drewN ?_ _ | refine blk_drew ?_ | refine blk_alloc ?_ _)); refine blk_put (cs := #[.int .i64 t512, .string (⟨#[]⟩ : ByteArray)]) ?_ 1 _ rfl; (with_reducible repeat (first | refine blk_drewN ?_ _ | refine blk_drew ?_ | refine blk_alloc ?_ _)); refine blk_put (cs := #[.int .i64 0, .string (⟨#[]⟩ : ByteArray)]) ?_ 0 _ rfl; (with_reducible repeat (first | refine blk_drewN ?_ _ | refine blk_drew ?_ | refine blk_alloc ?_ _)); exact BK518.out⟩, ⟨by repeat (first | (with_reducible first | exact HB.out | apply below_alloc | apply pw_below_drewN | apply below_drew1 | refine below_set ?_ GE518.out) | exact HB.out)⟩⟩
      case rest =>
        clear HC8
        try clear c1
        try clear p2
        try clear c4
        try clear c6
        try clear c13
        try clear c13b0
        try clear c13b1
        try clear hcz12_0
        try clear hcz12_1
        try clear hcz14_0
        try clear hcz14_1
        try clear hfz12_0
        try clear hfz12_1
        try clear hfz14_0
        try clear hfz14_1
        obtain ⟨kq, x32_7, rfl, HA, HJ7, BK518, HB⟩ := hcut
        cases kq with
        | zero => exact absurd HA.out (by simp [crossbarlaw16_OriginTimeoutDecides.j0])
        | succ kj7 =>
          have H := HA.out
          clear HA
          simp only [crossbarlaw16_OriginTimeoutDecides.j0] at H
          by_cases c15 : x32_7 = true
          · subst c15
            have H1 : (some true) = some r := by rw [if_pos rfl] at H; exact H
            clear H
            have H := H1
            clear H1
            obtain rfl := Option.some.inj H
            clear ht
            go_wp2
            repeat (go_quiet (fail); try go_wp2)
            go_ret
            exact ⟨by first | rfl | (simp [errW_none, errW_some] <;> rfl) | (simp [*, errW_none, errW_some] <;> rfl), by repeat (first | (with_reducible first | exact HB.out | apply below_alloc | apply pw_below_drewN | apply below_drew1 | refine below_set ?_ GE518.out) | exact HB.out)⟩
          · replace c15 := Bool.eq_false_iff.mpr c15
            subst c15
            have H1 : ((origin_Step.f kj7 t512 t513 l0 4 0 0).bind fun bt519 => ((dialplan_Analyze.f kj7 l0 a1 true).bind fun bt526 => (if bt519.2.2.2 = 0 then (if bt526.2.2 = 0 then (crossbarlaw16_OriginTimeoutDecides.j1 kj7 a1 bt519.2.2.1 ((bt519.2.2.1.length : Int) == 0) bt519.1 bt519.2.1 bt526.1 bt526.2.1) else (crossbarlaw16_OriginTimeoutDecides.j1 kj7 a1 bt519.2.2.1 true bt519.1 bt519.2.1 bt526.1 bt526.2.1)) else (crossbarlaw16_OriginTimeoutDecides.j1 kj7 a1 bt519.2.2.1 true bt519.1 bt519.2.1 bt526.1 bt526.2.1)))) = some r := by rw [if_neg (show ¬ (false = true) by decide)] at H; exact H
            clear H
            have H := H1
            clear H1
            replace H := Option.bind_eq_some_iff.mp H
            obtain ⟨⟨t519, t520, t521, t524⟩, A160, H⟩ := H
            replace H : ((dialplan_Analyze.f kj7 l0 a1 true).bind fun bt526 => (if t524 = 0 then (if bt526.2.2 = 0 then (crossbarlaw16_OriginTimeoutDecides.j1 kj7 a1 t521 ((t521.length : Int) == 0) t519 t520 bt526.1 bt526.2.1) else (crossbarlaw16_OriginTimeoutDecides.j1 kj7 a1 t521 true t519 t520 bt526.1 bt526.2.1)) else (crossbarlaw16_OriginTimeoutDecides.j1 kj7 a1 t521 true t519 t520 bt526.1 bt526.2.1))) = some r := H
            have A16 := Aside0.mk A160
            clear A160
            replace H := Option.bind_eq_some_iff.mp H
            obtain ⟨⟨t526, t527, t528⟩, A170, H⟩ := H
            replace H : (if t524 = 0 then (if t528 = 0 then (crossbarlaw16_OriginTimeoutDecides.j1 kj7 a1 t521 ((t521.length : Int) == 0) t519 t520 t526 t527) else (crossbarlaw16_OriginTimeoutDecides.j1 kj7 a1 t521 true t519 t520 t526 t527)) else (crossbarlaw16_OriginTimeoutDecides.j1 kj7 a1 t521 true t519 t520 t526 t527)) = some r := H
            have A17 := Aside0.mk A170
            clear A170
            have HC18 := Aside0.mk H
            clear H
            have hcz19_0 : wc.cell? ⟨gb518, 0, none⟩ = some (.int .i64 t512) := (blk_cell BK518.out 0).trans rfl
            have hcz19_1 : wc.cell? ⟨gb518, 1, none⟩ = some (.string t513) := (blk_cell BK518.out 1).trans rfl
            have hfz19_0 := blk_frozen BK518.out 0
            have hfz19_1 := blk_frozen BK518.out 1
            go_upto_region 10 with (first | (go_at_call 24; (with_reducible refine (origin_Step.calls kj7 t512 t513 _ _ l0 4 0 0 t519 t520 t521 t524 _ ?side1 ?side2 A16.out).mono ?_); (case side1 => repeat (first | exact (Kd.C_below HR0.out HB.out) | (with_reducible refine Kd.C_alloc ?_ _) | (with_reducible refine Kd.C_drewN ?_ _) | (with_reducible refine Kd.C_drew ?_))); (case side2 => exact HC0.out); rintro e w20 ⟨v522, rfl, ho0, hb⟩; have n0_ := Aside0.mk (Kd.R_lower ho0 (below_size (by repeat (first | (with_reducible first | exact HB.out | apply below_alloc | apply pw_below_drewN | apply below_drew1 | refine below_set ?_ GE518.out) | exact HB.out)))); have n1_ := Aside0.mk (blk_below (g := gb518) (o := .cells #[.int .i64 t512, .string t513] 45 (0, 0)) (by (with_reducible repeat (first | refine blk_drewN ?_ _ | refine blk_drew ?_ | refine blk_alloc ?_ _)); exact BK518.out) hb); have n2_ := Aside0.mk (below_step (by repeat (first | (with_reducible first | exact HB.out | apply below_alloc | apply pw_below_drewN | apply below_drew1 | refine below_set ?_ GE518.out) | exact HB.out)) hb); clear BK518; clear HB; have HO523 := n0_; have BK518 := n1_; have HB := n2_; clear n0_ n1_ n2_; (try clear hb); (try clear hb2); (try clear hk); (try clear hi); (try clear ho0)) | ((with_reducible refine gate_dst (N := 8) rfl ?_); (try (refine gate_guard (by rfl) ?_; dsimp only)); refine box_event ?hg (N := 8) ?hd (cs := #[.int .i64 0, .string (⟨#[]⟩ : ByteArray)]) (t := 45) ?hr ?_; (case hd => rfl); (case hg => rfl); (case hr => first | (go_simp; done) | (go_simp; rfl)); intro gb525 hg w21 hbox hb; have n0_ := Aside0.mk (Kd.R_below (by (with_reducible repeat (first | apply Kd.R_alloc | apply Kd.R_drewN | apply Kd.R_drew)); exact HO523.out) hb); have n1_ := Aside0.mk (blk_below (g := gb518) (o := .cells #[.int .i64 t512, .string t513] 45 (0, 0)) (by (with_reducible repeat (first | refine blk_drewN ?_ _ | refine blk_drew ?_ | refine blk_alloc ?_ _)); exact BK518.out) hb); have n2_ := Aside0.mk (below_step (by repeat (first | (with_reducible first | exact HB.out | apply below_alloc | apply pw_below_drewN | apply below_drew1 | refine below_set ?_ GE518.out) | exact HB.out)) hb); have n3_ := Aside0.mk (hbox); have n4_ := Aside0.mk ((by rw [hg]; exact (below_size (by repeat (first | (with_reducible first | exact HB.out | apply below_alloc | apply pw_below_drewN | apply below_drew1 | refine below_set ?_ GE518.out) | exact HB.out))) : w.heap.size ≤ gb525)); have n5_ := Aside0.mk ((by rw [hg]; exact (below_size (by repeat (first | (with_reducible first | exact HB.out | apply below_alloc | apply pw_below_drewN | apply below_drew1 | refine below_set ?_ GE518.out) | exact HB.out))) : w.heap.size ≤ gb525)); have n6_ := Aside0.mk ((by rw [hg]; exact Nat.ne_of_lt (blk_lt (g := gb518) (o := .cells #[.int .i64 t512, .string t513] 45 (0, 0)) (by (with_reducible repeat (first | refine blk_drewN ?_ _ | refine blk_drew ?_ | refine blk_alloc ?_ _)); exact BK518.out)) : gb518 ≠ gb525)); have n7_ := Aside0.mk ((by rw [hg]; exact Nat.ne_of_gt (blk_lt (g := gb518) (o := .cells #[.int .i64 t512, .string t513] 45 (0, 0)) (by (with_reducible repeat (first | refine blk_drewN ?_ _ | refine blk_drew ?_ | refine blk_alloc ?_ _)); exact BK518.out)) : gb525 ≠ gb518)); clear HO523; clear BK518; clear HB; have HO523 := n0_; have BK518 := n1_; have HB := n2_; have BK525 := n3_; have GW525 := n4_; have GE525 := n5_; have NB518_525 := n6_; have NB525_518 := n7_; clear n0_ n1_ n2_ n3_ n4_ n5_ n6_ n7_; clear hb hbox hg; have hnb22 := NB525_518.out; have hnc22 := NB518_525.out; have hcz23_0 : w21.cell? ⟨gb525, 0, none⟩ = some (.int .i64 0) := (blk_cell BK525.out 0).trans rfl; have hcz23_1 : w21.cell? ⟨gb525, 1, none⟩ = some (.string (⟨#[]⟩ : ByteArray)) := (blk_cell BK525.out 1).trans rfl; have hfz23_0 := blk_frozen BK525.out 0; have hfz23_1 := blk_frozen BK525.out 1) | (go_at_call 16; (with_reducible refine (dialplan_Analyze.calls kj7 _ _ l0 a1 true t526 t527 t528 _ ?side1 ?side2 A17.out).mono ?_); (case side1 => exact Kd.C_below HR0.out (by repeat (first | (with_reducible first | exact HB.out | apply below_alloc | apply pw_below_drewN | apply below_drew1 | refine below_set ?_ GE518.out | refine below_set ?_ GE525.out) | exact HB.out))); (case side2 => exact HC0.out); rintro e w24 ⟨rfl, hb⟩; have n0_ := Aside0.mk (Kd.R_below (by (with_reducible repeat (first | apply Kd.R_alloc | apply Kd.R_drewN | apply Kd.R_drew)); exact (Kd.R_mono (Kd.R_far (p := ⟨gb525, 1, none⟩) (Kd.R_far (p := ⟨gb525, 0, none⟩) (Kd.R_types HO523.out BK525.out (by decide)) (fun _ hk => hk.2) (.int .i64 t519)) (fun _ hk => hk.2) (.string t520)) (fun _ h_ => h_.1))) hb); have n1_ := Aside0.mk (blk_below (g := gb518) (o := .cells #[.int .i64 t512, .string t513] 45 (0, 0)) (by (with_reducible repeat (first | refine blk_drewN ?_ _ | refine blk_drew ?_ | refine blk_alloc ?_ _)); refine blk_far ?_ NB518_525.out _; (with_reducible repeat (first | refine blk_drewN ?_ _ | refine blk_drew ?_ | refine blk_alloc ?_ _)); refine blk_far ?_ NB518_525.out _; (with_reducible repeat (first | refine blk_drewN ?_ _ | refine blk_drew ?_ | refine blk_alloc ?_ _)); exact BK518.out) hb); have n2_ := Aside0.mk (blk_below (g := gb525) (o := .cells #[.int .i64 t519, .string t520] 45 (0, 0)) (by (with_reducible repeat (first | refine blk_drewN ?_ _ | refine blk_drew ?_ | refine blk_alloc ?_ _)); refine blk_put (cs := #[.int .i64 t519, .string (⟨#[]⟩ : ByteArray)]) ?_ 1 _ rfl; (with_reducible repeat (first | refine blk_drewN ?_ _ | refine blk_drew ?_ | refine blk_alloc ?_ _)); refine blk_put (cs := #[.int .i64 0, .string (⟨#[]⟩ : ByteArray)]) ?_ 0 _ rfl; (with_reducible repeat (first | refine blk_drewN ?_ _ | refine blk_drew ?_ | refine blk_alloc ?_ _)); exact BK525.out) hb); have n3_ := Aside0.mk (below_step (by repeat (first | (with_reducible first | exact HB.out | apply below_alloc | apply pw_below_drewN | apply below_drew1 | refine below_set ?_ GE518.out | refine below_set ?_ GE525.out) | exact HB.out)) hb); clear HO523; clear BK518; clear BK525; clear HB; have HO523 := n0_; have BK518 := n1_; have BK525 := n2_; have HB := n3_; clear n0_ n1_ n2_ n3_; (try clear hb); (try clear hb2); (try clear hk); (try clear hi)) | ((with_reducible refine gate_dst (N := 11) rfl ?_); (try (refine gate_guard (by rfl) ?_; dsimp only)); refine box_event ?hg (N := 11) ?hd (cs := #[.int .i64 0, .int .i64 0]) (t := 26) ?hr ?_; (case hd => rfl); (case hg => rfl); (case hr => first | (go_simp; done) | (go_simp; rfl)); intro gb529 hg w25 hbox hb; have n0_ := Aside0.mk (Kd.R_below (by (with_reducible repeat (first | apply Kd.R_alloc | apply Kd.R_drewN | apply Kd.R_drew)); exact HO523.out) hb); have n1_ := Aside0.mk (blk_below (g := gb518) (o := .cells #[.int .i64 t512, .string t513] 45 (0, 0)) (by (with_reducible repeat (first | refine blk_drewN ?_ _ | refine blk_drew ?_ | refine blk_alloc ?_ _)); exact BK518.out) hb); have n2_ := Aside0.mk (blk_below (g := gb525) (o := .cells #[.int .i64 t519, .string t520] 45 (0, 0)) (by (with_reducible repeat (first | refine blk_drewN ?_ _ | refine blk_drew ?_ | refine blk_alloc ?_ _)); exact BK525.out) hb); have n3_ := Aside0.mk (below_step (by repeat (first | (with_reducible first | exact HB.out | apply below_alloc | apply pw_below_drewN | apply below_drew1 | refine below_set ?_ GE518.out | refine below_set ?_ GE525.out) | exact HB.out)) hb); have n4_ := Aside0.mk (hbox); have n5_ := Aside0.mk ((by rw [hg]; exact (below_size (by repeat (first | (with_reducible first | exact HB.out | apply below_alloc | apply pw_below_drewN | apply below_drew1 | refine below_set ?_ GE518.out | refine below_set ?_ GE525.out) | exact HB.out))) : w.heap.size ≤ gb529)); have n6_ := Aside0.mk ((by rw [hg]; exact (below_size (by repeat (first | (with_reducible first | exact HB.out | apply below_alloc | apply pw_below_drewN | apply below_drew1 | refine below_set ?_ GE518.out | refine below_set ?_ GE525.out) | exact HB.out))) : w.heap.size ≤ gb529)); have n7_ := Aside0.mk ((by rw [hg]; exact Nat.ne_of_lt (blk_lt (g := gb518) (o := .cells #[.int .i64 t512, .string t513] 45 (0, 0)) (by (with_reducible repeat (first | refine blk_drewN ?_ _ | refine blk_drew ?_ | refine blk_alloc ?_ _)); exact BK518.out)) : gb518 ≠ gb529)); have n8_ := Aside0.mk ((by rw [hg]; exact Nat.ne_of_gt (blk_lt (g := gb518) (o := .cells #[.int .i64 t512, .string t513] 45 (0, 0)) (by (with_reducible repeat (first | refine blk_drewN ?_ _ | refine blk_drew ?_ | refine blk_alloc ?_ _)); exact BK518.out)) : gb529 ≠ gb518)); have n9_ := Aside0.mk ((by rw [hg]; exact Nat.ne_of_lt (blk_lt (g := gb525) (o := .cells #[.int .i64 t519, .string t520] 45 (0, 0)) (by (with_reducible repeat (first | refine blk_drewN ?_ _ | refine blk_drew ?_ | refine blk_alloc ?_ _)); exact BK525.out)) : gb525 ≠ gb529)); have n10_ := Aside0.mk ((by rw [hg]; exact Nat.ne_of_gt (blk_lt (g := gb525) (o := .cells #[.int .i64 t519, .string t520] 45 (0, 0)) (by (with_reducible repeat (first | refine blk_drewN ?_ _ | refine blk_drew ?_ | refine blk_alloc ?_ _)); exact BK525.out)) : gb529 ≠ gb525)); clear HO523; clear BK518; clear BK525; clear HB; have HO523 := n0_; have BK518 := n1_; have BK525 := n2_; have HB := n3_; have BK529 := n4_; have GW529 := n5_; have GE529 := n6_; have NB518_529 := n7_; have NB529_518 := n8_; have NB525_529 := n9_; have NB529_525 := n10_; clear n0_ n1_ n2_ n3_ n4_ n5_ n6_ n7_ n8_ n9_ n10_; clear hb hbox hg; have hnb26 := NB529_518.out; have hnc26 := NB518_529.out; have hnb27 := NB529_525.out; have hnc27 := NB525_529.out; have hcz28_0 : w25.cell? ⟨gb529, 0, none⟩ = some (.int .i64 0) := (blk_cell BK529.out 0).trans rfl; have hcz28_1 : w25.cell? ⟨gb529, 1, none⟩ = some (.int .i64 0) := (blk_cell BK529.out 1).trans rfl; have hfz28_0 := blk_frozen BK529.out 0; have hfz28_1 := blk_frozen BK529.out 1))
            repeat (go_quiet (first | (go_at_call 24; (with_reducible refine (origin_Step.calls kj7 t512 t513 _ _ l0 4 0 0 t519 t520 t521 t524 _ ?side1 ?side2 A16.out).mono ?_); (case side1 => repeat (first | exact (Kd.C_below HR0.out HB.out) | (with_reducible refine Kd.C_alloc ?_ _) | (with_reducible refine Kd.C_drewN ?_ _) | (with_reducible refine Kd.C_drew ?_))); (case side2 => exact HC0.out); rintro e w20 ⟨v522, rfl, ho0, hb⟩; have n0_ := Aside0.mk (Kd.R_lower ho0 (below_size (by repeat (first | (with_reducible first | exact HB.out | apply below_alloc | apply pw_below_drewN | apply below_drew1 | refine below_set ?_ GE518.out) | exact HB.out)))); have n1_ := Aside0.mk (blk_below (g := gb518) (o := .cells #[.int .i64 t512, .string t513] 45 (0, 0)) (by (with_reducible repeat (first | refine blk_drewN ?_ _ | refine blk_drew ?_ | refine blk_alloc ?_ _)); exact BK518.out) hb); have n2_ := Aside0.mk (below_step (by repeat (first | (with_reducible first | exact HB.out | apply below_alloc | apply pw_below_drewN | apply below_drew1 | refine below_set ?_ GE518.out) | exact HB.out)) hb); clear BK518; clear HB; have HO523 := n0_; have BK518 := n1_; have HB := n2_; clear n0_ n1_ n2_; (try clear hb); (try clear hb2); (try clear hk); (try clear hi); (try clear ho0)) | ((with_reducible refine gate_dst (N := 8) rfl ?_); (try (refine gate_guard (by rfl) ?_; dsimp only)); refine box_event ?hg (N := 8) ?hd (cs := #[.int .i64 0, .string (⟨#[]⟩ : ByteArray)]) (t := 45) ?hr ?_; (case hd => rfl); (case hg => rfl); (case hr => first | (go_simp; done) | (go_simp; rfl)); intro gb525 hg w21 hbox hb; have n0_ := Aside0.mk (Kd.R_below (by (with_reducible repeat (first | apply Kd.R_alloc | apply Kd.R_drewN | apply Kd.R_drew)); exact HO523.out) hb); have n1_ := Aside0.mk (blk_below (g := gb518) (o := .cells #[.int .i64 t512, .string t513] 45 (0, 0)) (by (with_reducible repeat (first | refine blk_drewN ?_ _ | refine blk_drew ?_ | refine blk_alloc ?_ _)); exact BK518.out) hb); have n2_ := Aside0.mk (below_step (by repeat (first | (with_reducible first | exact HB.out | apply below_alloc | apply pw_below_drewN | apply below_drew1 | refine below_set ?_ GE518.out) | exact HB.out)) hb); have n3_ := Aside0.mk (hbox); have n4_ := Aside0.mk ((by rw [hg]; exact (below_size (by repeat (first | (with_reducible first | exact HB.out | apply below_alloc | apply pw_below_drewN | apply below_drew1 | refine below_set ?_ GE518.out) | exact HB.out))) : w.heap.size ≤ gb525)); have n5_ := Aside0.mk ((by rw [hg]; exact (below_size (by repeat (first | (with_reducible first | exact HB.out | apply below_alloc | apply pw_below_drewN | apply below_drew1 | refine below_set ?_ GE518.out) | exact HB.out))) : w.heap.size ≤ gb525)); have n6_ := Aside0.mk ((by rw [hg]; exact Nat.ne_of_lt (blk_lt (g := gb518) (o := .cells #[.int .i64 t512, .string t513] 45 (0, 0)) (by (with_reducible repeat (first | refine blk_drewN ?_ _ | refine blk_drew ?_ | refine blk_alloc ?_ _)); exact BK518.out)) : gb518 ≠ gb525)); have n7_ := Aside0.mk ((by rw [hg]; exact Nat.ne_of_gt (blk_lt (g := gb518) (o := .cells #[.int .i64 t512, .string t513] 45 (0, 0)) (by (with_reducible repeat (first | refine blk_drewN ?_ _ | refine blk_drew ?_ | refine blk_alloc ?_ _)); exact BK518.out)) : gb525 ≠ gb518)); clear HO523; clear BK518; clear HB; have HO523 := n0_; have BK518 := n1_; have HB := n2_; have BK525 := n3_; have GW525 := n4_; have GE525 := n5_; have NB518_525 := n6_; have NB525_518 := n7_; clear n0_ n1_ n2_ n3_ n4_ n5_ n6_ n7_; clear hb hbox hg; have hnb22 := NB525_518.out; have hnc22 := NB518_525.out; have hcz23_0 : w21.cell? ⟨gb525, 0, none⟩ = some (.int .i64 0) := (blk_cell BK525.out 0).trans rfl; have hcz23_1 : w21.cell? ⟨gb525, 1, none⟩ = some (.string (⟨#[]⟩ : ByteArray)) := (blk_cell BK525.out 1).trans rfl; have hfz23_0 := blk_frozen BK525.out 0; have hfz23_1 := blk_frozen BK525.out 1) | (go_at_call 16; (with_reducible refine (dialplan_Analyze.calls kj7 _ _ l0 a1 true t526 t527 t528 _ ?side1 ?side2 A17.out).mono ?_); (case side1 => exact Kd.C_below HR0.out (by repeat (first | (with_reducible first | exact HB.out | apply below_alloc | apply pw_below_drewN | apply below_drew1 | refine below_set ?_ GE518.out | refine below_set ?_ GE525.out) | exact HB.out))); (case side2 => exact HC0.out); rintro e w24 ⟨rfl, hb⟩; have n0_ := Aside0.mk (Kd.R_below (by (with_reducible repeat (first | apply Kd.R_alloc | apply Kd.R_drewN | apply Kd.R_drew)); exact (Kd.R_mono (Kd.R_far (p := ⟨gb525, 1, none⟩) (Kd.R_far (p := ⟨gb525, 0, none⟩) (Kd.R_types HO523.out BK525.out (by decide)) (fun _ hk => hk.2) (.int .i64 t519)) (fun _ hk => hk.2) (.string t520)) (fun _ h_ => h_.1))) hb); have n1_ := Aside0.mk (blk_below (g := gb518) (o := .cells #[.int .i64 t512, .string t513] 45 (0, 0)) (by (with_reducible repeat (first | refine blk_drewN ?_ _ | refine blk_drew ?_ | refine blk_alloc ?_ _)); refine blk_far ?_ NB518_525.out _; (with_reducible repeat (first | refine blk_drewN ?_ _ | refine blk_drew ?_ | refine blk_alloc ?_ _)); refine blk_far ?_ NB518_525.out _; (with_reducible repeat (first | refine blk_drewN ?_ _ | refine blk_drew ?_ | refine blk_alloc ?_ _)); exact BK518.out) hb); have n2_ := Aside0.mk (blk_below (g := gb525) (o := .cells #[.int .i64 t519, .string t520] 45 (0, 0)) (by (with_reducible repeat (first | refine blk_drewN ?_ _ | refine blk_drew ?_ | refine blk_alloc ?_ _)); refine blk_put (cs := #[.int .i64 t519, .string (⟨#[]⟩ : ByteArray)]) ?_ 1 _ rfl; (with_reducible repeat (first | refine blk_drewN ?_ _ | refine blk_drew ?_ | refine blk_alloc ?_ _)); refine blk_put (cs := #[.int .i64 0, .string (⟨#[]⟩ : ByteArray)]) ?_ 0 _ rfl; (with_reducible repeat (first | refine blk_drewN ?_ _ | refine blk_drew ?_ | refine blk_alloc ?_ _)); exact BK525.out) hb); have n3_ := Aside0.mk (below_step (by repeat (first | (with_reducible first | exact HB.out | apply below_alloc | apply pw_below_drewN | apply below_drew1 | refine below_set ?_ GE518.out | refine below_set ?_ GE525.out) | exact HB.out)) hb); clear HO523; clear BK518; clear BK525; clear HB; have HO523 := n0_; have BK518 := n1_; have BK525 := n2_; have HB := n3_; clear n0_ n1_ n2_ n3_; (try clear hb); (try clear hb2); (try clear hk); (try clear hi)) | ((with_reducible refine gate_dst (N := 11) rfl ?_); (try (refine gate_guard (by rfl) ?_; dsimp only)); refine box_event ?hg (N := 11) ?hd (cs := #[.int .i64 0, .int .i64 0]) (t := 26) ?hr ?_; (case hd => rfl); (case hg => rfl); (case hr => first | (go_simp; done) | (go_simp; rfl)); intro gb529 hg w25 hbox hb; have n0_ := Aside0.mk (Kd.R_below (by (with_reducible repeat (first | apply Kd.R_alloc | apply Kd.R_drewN | apply Kd.R_drew)); exact HO523.out) hb); have n1_ := Aside0.mk (blk_below (g := gb518) (o := .cells #[.int .i64 t512, .string t513] 45 (0, 0)) (by (with_reducible repeat (first | refine blk_drewN ?_ _ | refine blk_drew ?_ | refine blk_alloc ?_ _)); exact BK518.out) hb); have n2_ := Aside0.mk (blk_below (g := gb525) (o := .cells #[.int .i64 t519, .string t520] 45 (0, 0)) (by (with_reducible repeat (first | refine blk_drewN ?_ _ | refine blk_drew ?_ | refine blk_alloc ?_ _)); exact BK525.out) hb); have n3_ := Aside0.mk (below_step (by repeat (first | (with_reducible first | exact HB.out | apply below_alloc | apply pw_below_drewN | apply below_drew1 | refine below_set ?_ GE518.out | refine below_set ?_ GE525.out) | exact HB.out)) hb); have n4_ := Aside0.mk (hbox); have n5_ := Aside0.mk ((by rw [hg]; exact (below_size (by repeat (first | (with_reducible first | exact HB.out | apply below_alloc | apply pw_below_drewN | apply below_drew1 | refine below_set ?_ GE518.out | refine below_set ?_ GE525.out) | exact HB.out))) : w.heap.size ≤ gb529)); have n6_ := Aside0.mk ((by rw [hg]; exact (below_size (by repeat (first | (with_reducible first | exact HB.out | apply below_alloc | apply pw_below_drewN | apply below_drew1 | refine below_set ?_ GE518.out | refine below_set ?_ GE525.out) | exact HB.out))) : w.heap.size ≤ gb529)); have n7_ := Aside0.mk ((by rw [hg]; exact Nat.ne_of_lt (blk_lt (g := gb518) (o := .cells #[.int .i64 t512, .string t513] 45 (0, 0)) (by (with_reducible repeat (first | refine blk_drewN ?_ _ | refine blk_drew ?_ | refine blk_alloc ?_ _)); exact BK518.out)) : gb518 ≠ gb529)); have n8_ := Aside0.mk ((by rw [hg]; exact Nat.ne_of_gt (blk_lt (g := gb518) (o := .cells #[.int .i64 t512, .string t513] 45 (0, 0)) (by (with_reducible repeat (first | refine blk_drewN ?_ _ | refine blk_drew ?_ | refine blk_alloc ?_ _)); exact BK518.out)) : gb529 ≠ gb518)); have n9_ := Aside0.mk ((by rw [hg]; exact Nat.ne_of_lt (blk_lt (g := gb525) (o := .cells #[.int .i64 t519, .string t520] 45 (0, 0)) (by (with_reducible repeat (first | refine blk_drewN ?_ _ | refine blk_drew ?_ | refine blk_alloc ?_ _)); exact BK525.out)) : gb525 ≠ gb529)); have n10_ := Aside0.mk ((by rw [hg]; exact Nat.ne_of_gt (blk_lt (g := gb525) (o := .cells #[.int .i64 t519, .string t520] 45 (0, 0)) (by (with_reducible repeat (first | refine blk_drewN ?_ _ | refine blk_drew ?_ | refine blk_alloc ?_ _)); exact BK525.out)) : gb529 ≠ gb525)); clear HO523; clear BK518; clear BK525; clear HB; have HO523 := n0_; have BK518 := n1_; have BK525 := n2_; have HB := n3_; have BK529 := n4_; have GW529 := n5_; have GE529 := n6_; have NB518_529 := n7_; have NB529_518 := n8_; have NB525_529 := n9_; have NB529_525 := n10_; clear n0_ n1_ n2_ n3_ n4_ n5_ n6_ n7_ n8_ n9_ n10_; clear hb hbox hg; have hnb26 := NB529_518.out; have hnc26 := NB518_529.out; have hnb27 := NB529_525.out; have hnc27 := NB525_529.out; have hcz28_0 : w25.cell? ⟨gb529, 0, none⟩ = some (.int .i64 0) := (blk_cell BK529.out 0).trans rfl; have hcz28_1 : w25.cell? ⟨gb529, 1, none⟩ = some (.int .i64 0) := (blk_cell BK529.out 1).trans rfl; have hfz28_0 := blk_frozen BK529.out 0; have hfz28_1 := blk_frozen BK529.out 1)); go_upto_region 10 with (first | (go_at_call 24; (with_reducible refine (origin_Step.calls kj7 t512 t513 _ _ l0 4 0 0 t519 t520 t521 t524 _ ?side1 ?side2 A16.out).mono ?_); (case side1 => repeat (first | exact (Kd.C_below HR0.out HB.out) | (with_reducible refine Kd.C_alloc ?_ _) | (with_reducible refine Kd.C_drewN ?_ _) | (with_reducible refine Kd.C_drew ?_))); (case side2 => exact HC0.out); rintro e w20 ⟨v522, rfl, ho0, hb⟩; have n0_ := Aside0.mk (Kd.R_lower ho0 (below_size (by repeat (first | (with_reducible first | exact HB.out | apply below_alloc | apply pw_below_drewN | apply below_drew1 | refine below_set ?_ GE518.out) | exact HB.out)))); have n1_ := Aside0.mk (blk_below (g := gb518) (o := .cells #[.int .i64 t512, .string t513] 45 (0, 0)) (by (with_reducible repeat (first | refine blk_drewN ?_ _ | refine blk_drew ?_ | refine blk_alloc ?_ _)); exact BK518.out) hb); have n2_ := Aside0.mk (below_step (by repeat (first | (with_reducible first | exact HB.out | apply below_alloc | apply pw_below_drewN | apply below_drew1 | refine below_set ?_ GE518.out) | exact HB.out)) hb); clear BK518; clear HB; have HO523 := n0_; have BK518 := n1_; have HB := n2_; clear n0_ n1_ n2_; (try clear hb); (try clear hb2); (try clear hk); (try clear hi); (try clear ho0)) | ((with_reducible refine gate_dst (N := 8) rfl ?_); (try (refine gate_guard (by rfl) ?_; dsimp only)); refine box_event ?hg (N := 8) ?hd (cs := #[.int .i64 0, .string (⟨#[]⟩ : ByteArray)]) (t := 45) ?hr ?_; (case hd => rfl); (case hg => rfl); (case hr => first | (go_simp; done) | (go_simp; rfl)); intro gb525 hg w21 hbox hb; have n0_ := Aside0.mk (Kd.R_below (by (with_reducible repeat (first | apply Kd.R_alloc | apply Kd.R_drewN | apply Kd.R_drew)); exact HO523.out) hb); have n1_ := Aside0.mk (blk_below (g := gb518) (o := .cells #[.int .i64 t512, .string t513] 45 (0, 0)) (by (with_reducible repeat (first | refine blk_drewN ?_ _ | refine blk_drew ?_ | refine blk_alloc ?_ _)); exact BK518.out) hb); have n2_ := Aside0.mk (below_step (by repeat (first | (with_reducible first | exact HB.out | apply below_alloc | apply pw_below_drewN | apply below_drew1 | refine below_set ?_ GE518.out) | exact HB.out)) hb); have n3_ := Aside0.mk (hbox); have n4_ := Aside0.mk ((by rw [hg]; exact (below_size (by repeat (first | (with_reducible first | exact HB.out | apply below_alloc | apply pw_below_drewN | apply below_drew1 | refine below_set ?_ GE518.out) | exact HB.out))) : w.heap.size ≤ gb525)); have n5_ := Aside0.mk ((by rw [hg]; exact (below_size (by repeat (first | (with_reducible first | exact HB.out | apply below_alloc | apply pw_below_drewN | apply below_drew1 | refine below_set ?_ GE518.out) | exact HB.out))) : w.heap.size ≤ gb525)); have n6_ := Aside0.mk ((by rw [hg]; exact Nat.ne_of_lt (blk_lt (g := gb518) (o := .cells #[.int .i64 t512, .string t513] 45 (0, 0)) (by (with_reducible repeat (first | refine blk_drewN ?_ _ | refine blk_drew ?_ | refine blk_alloc ?_ _)); exact BK518.out)) : gb518 ≠ gb525)); have n7_ := Aside0.mk ((by rw [hg]; exact Nat.ne_of_gt (blk_lt (g := gb518) (o := .cells #[.int .i64 t512, .string t513] 45 (0, 0)) (by (with_reducible repeat (first | refine blk_drewN ?_ _ | refine blk_drew ?_ | refine blk_alloc ?_ _)); exact BK518.out)) : gb525 ≠ gb518)); clear HO523; clear BK518; clear HB; have HO523 := n0_; have BK518 := n1_; have HB := n2_; have BK525 := n3_; have GW525 := n4_; have GE525 := n5_; have NB518_525 := n6_; have NB525_518 := n7_; clear n0_ n1_ n2_ n3_ n4_ n5_ n6_ n7_; clear hb hbox hg; have hnb22 := NB525_518.out; have hnc22 := NB518_525.out; have hcz23_0 : w21.cell? ⟨gb525, 0, none⟩ = some (.int .i64 0) := (blk_cell BK525.out 0).trans rfl; have hcz23_1 : w21.cell? ⟨gb525, 1, none⟩ = some (.string (⟨#[]⟩ : ByteArray)) := (blk_cell BK525.out 1).trans rfl; have hfz23_0 := blk_frozen BK525.out 0; have hfz23_1 := blk_frozen BK525.out 1) | (go_at_call 16; (with_reducible refine (dialplan_Analyze.calls kj7 _ _ l0 a1 true t526 t527 t528 _ ?side1 ?side2 A17.out).mono ?_); (case side1 => exact Kd.C_below HR0.out (by repeat (first | (with_reducible first | exact HB.out | apply below_alloc | apply pw_below_drewN | apply below_drew1 | refine below_set ?_ GE518.out | refine below_set ?_ GE525.out) | exact HB.out))); (case side2 => exact HC0.out); rintro e w24 ⟨rfl, hb⟩; have n0_ := Aside0.mk (Kd.R_below (by (with_reducible repeat (first | apply Kd.R_alloc | apply Kd.R_drewN | apply Kd.R_drew)); exact (Kd.R_mono (Kd.R_far (p := ⟨gb525, 1, none⟩) (Kd.R_far (p := ⟨gb525, 0, none⟩) (Kd.R_types HO523.out BK525.out (by decide)) (fun _ hk => hk.2) (.int .i64 t519)) (fun _ hk => hk.2) (.string t520)) (fun _ h_ => h_.1))) hb); have n1_ := Aside0.mk (blk_below (g := gb518) (o := .cells #[.int .i64 t512, .string t513] 45 (0, 0)) (by (with_reducible repeat (first | refine blk_drewN ?_ _ | refine blk_drew ?_ | refine blk_alloc ?_ _)); refine blk_far ?_ NB518_525.out _; (with_reducible repeat (first | refine blk_drewN ?_ _ | refine blk_drew ?_ | refine blk_alloc ?_ _)); refine blk_far ?_ NB518_525.out _; (with_reducible repeat (first | refine blk_drewN ?_ _ | refine blk_drew ?_ | refine blk_alloc ?_ _)); exact BK518.out) hb); have n2_ := Aside0.mk (blk_below (g := gb525) (o := .cells #[.int .i64 t519, .string t520] 45 (0, 0)) (by (with_reducible repeat (first | refine blk_drewN ?_ _ | refine blk_drew ?_ | refine blk_alloc ?_ _)); refine blk_put (cs := #[.int .i64 t519, .string (⟨#[]⟩ : ByteArray)]) ?_ 1 _ rfl; (with_reducible repeat (first | refine blk_drewN ?_ _ | refine blk_drew ?_ | refine blk_alloc ?_ _)); refine blk_put (cs := #[.int .i64 0, .string (⟨#[]⟩ : ByteArray)]) ?_ 0 _ rfl; (with_reducible repeat (first | refine blk_drewN ?_ _ | refine blk_drew ?_ | refine blk_alloc ?_ _)); exact BK525.out) hb); have n3_ := Aside0.mk (below_step (by repeat (first | (with_reducible first | exact HB.out | apply below_alloc | apply pw_below_drewN | apply below_drew1 | refine below_set ?_ GE518.out | refine below_set ?_ GE525.out) | exact HB.out)) hb); clear HO523; clear BK518; clear BK525; clear HB; have HO523 := n0_; have BK518 := n1_; have BK525 := n2_; have HB := n3_; clear n0_ n1_ n2_ n3_; (try clear hb); (try clear hb2); (try clear hk); (try clear hi)) | ((with_reducible refine gate_dst (N := 11) rfl ?_); (try (refine gate_guard (by rfl) ?_; dsimp only)); refine box_event ?hg (N := 11) ?hd (cs := #[.int .i64 0, .int .i64 0]) (t := 26) ?hr ?_; (case hd => rfl); (case hg => rfl); (case hr => first | (go_simp; done) | (go_simp; rfl)); intro gb529 hg w25 hbox hb; have n0_ := Aside0.mk (Kd.R_below (by (with_reducible repeat (first | apply Kd.R_alloc | apply Kd.R_drewN | apply Kd.R_drew)); exact HO523.out) hb); have n1_ := Aside0.mk (blk_below (g := gb518) (o := .cells #[.int .i64 t512, .string t513] 45 (0, 0)) (by (with_reducible repeat (first | refine blk_drewN ?_ _ | refine blk_drew ?_ | refine blk_alloc ?_ _)); exact BK518.out) hb); have n2_ := Aside0.mk (blk_below (g := gb525) (o := .cells #[.int .i64 t519, .string t520] 45 (0, 0)) (by (with_reducible repeat (first | refine blk_drewN ?_ _ | refine blk_drew ?_ | refine blk_alloc ?_ _)); exact BK525.out) hb); have n3_ := Aside0.mk (below_step (by repeat (first | (with_reducible first | exact HB.out | apply below_alloc | apply pw_below_drewN | apply below_drew1 | refine below_set ?_ GE518.out | refine below_set ?_ GE525.out) | exact HB.out)) hb); have n4_ := Aside0.mk (hbox); have n5_ := Aside0.mk ((by rw [hg]; exact (below_size (by repeat (first | (with_reducible first | exact HB.out | apply below_alloc | apply pw_below_drewN | apply below_drew1 | refine below_set ?_ GE518.out | refine below_set ?_ GE525.out) | exact HB.out))) : w.heap.size ≤ gb529)); have n6_ := Aside0.mk ((by rw [hg]; exact (below_size (by repeat (first | (with_reducible first | exact HB.out | apply below_alloc | apply pw_below_drewN | apply below_drew1 | refine below_set ?_ GE518.out | refine below_set ?_ GE525.out) | exact HB.out))) : w.heap.size ≤ gb529)); have n7_ := Aside0.mk ((by rw [hg]; exact Nat.ne_of_lt (blk_lt (g := gb518) (o := .cells #[.int .i64 t512, .string t513] 45 (0, 0)) (by (with_reducible repeat (first | refine blk_drewN ?_ _ | refine blk_drew ?_ | refine blk_alloc ?_ _)); exact BK518.out)) : gb518 ≠ gb529)); have n8_ := Aside0.mk ((by rw [hg]; exact Nat.ne_of_gt (blk_lt (g := gb518) (o := .cells #[.int .i64 t512, .string t513] 45 (0, 0)) (by (with_reducible repeat (first | refine blk_drewN ?_ _ | refine blk_drew ?_ | refine blk_alloc ?_ _)); exact BK518.out)) : gb529 ≠ gb518)); have n9_ := Aside0.mk ((by rw [hg]; exact Nat.ne_of_lt (blk_lt (g := gb525) (o := .cells #[.int .i64 t519, .string t520] 45 (0, 0)) (by (with_reducible repeat (first | refine blk_drewN ?_ _ | refine blk_drew ?_ | refine blk_alloc ?_ _)); exact BK525.out)) : gb525 ≠ gb529)); have n10_ := Aside0.mk ((by rw [hg]; exact Nat.ne_of_gt (blk_lt (g := gb525) (o := .cells #[.int .i64 t519, .string t520] 45 (0, 0)) (by (with_reducible repeat (first | refine blk_drewN ?_ _ | refine blk_drew ?_ | refine blk_alloc ?_ _)); exact BK525.out)) : gb529 ≠ gb525)); clear HO523; clear BK518; clear BK525; clear HB; have HO523 := n0_; have BK518 := n1_; have BK525 := n2_; have HB := n3_; have BK529 := n4_; have GW529 := n5_; have GE529 := n6_; have NB518_529 := n7_; have NB529_518 := n8_; have NB525_529 := n9_; have NB529_525 := n10_; clear n0_ n1_ n2_ n3_ n4_ n5_ n6_ n7_ n8_ n9_ n10_; clear hb hbox hg; have hnb26 := NB529_518.out; have hnc26 := NB518_529.out; have hnb27 := NB529_525.out; have hnc27 := NB525_529.out; have hcz28_0 : w25.cell? ⟨gb529, 0, none⟩ = some (.int .i64 0) := (blk_cell BK529.out 0).trans rfl; have hcz28_1 : w25.cell? ⟨gb529, 1, none⟩ = some (.int .i64 0) := (blk_cell BK529.out 1).trans rfl; have hfz28_0 := blk_frozen BK529.out 0; have hfz28_1 := blk_frozen BK529.out 1)))
            (try simp only [Act.put, List.setIfInBounds_toArray, List.set_cons_zero, List.set_cons_succ])
            go_cut [57] (fun v57 wc => ∃ (kq : Nat) (x57_17 : Bool), v57 = .bool x57_17 ∧ Aside0 (crossbarlaw16_OriginTimeoutDecides.j1 kq a1 t521 x57_17 t519 t520 t526 t527 = some r) ∧ Aside0 (kq ≤ kj7) ∧ Aside0 (Kd.R k62 62 wc w.heap.size (fun _ => True) v522 t521) ∧ Aside0 (wc.heap[gb518]? = some (.cells #[.int .i64 t512, .string t513] 45 (0, 0))) ∧ Aside0 (wc.heap[gb525]? = some (.cells #[.int .i64 t519, .string t520] 45 (0, 0))) ∧ Aside0 (wc.heap[gb529]? = some (.cells #[.int .i64 t526, .int .i64 t527] 26 (0, 0))) ∧ Aside0 (Below w.heap.size w wc))
            case first =>
              have H := HC18.out
              clear HC18
              by_cases c29 : t524 = 0
              · rw [if_pos c29] at H
                have c29b0 : (t524 == 0) = true := beq_iff_eq.mpr c29
                have c29b1 : (t524 != 0) = false := bne_eq_false_iff_eq.mpr c29
                clear c29
                (first | rw [c29b0] | (simp only [i64_w, i32_w]; rw [c29b0]) | skip)
                by_cases c30 : t528 = 0
                · rw [if_pos c30] at H
                  have c30b0 : (t528 == 0) = true := beq_iff_eq.mpr c30
                  have c30b1 : (t528 != 0) = false := bne_eq_false_iff_eq.mpr c30
                  clear c30
                  have H' := Aside0.mk H
                  clear H
                  obtain ⟨Ao31, co31, eo31⟩ := Kd.R_slice HO523.out
                  subst eo31
                  go_wp2
                  repeat (go_quiet (fail); try go_wp2)
                  go_meet
                  case rel => exact ⟨_, (((t521.length : Int) == 0)), (by first | rfl | (simp; done) | (simp [*]; done)), H', ⟨by have := HJ7.out; first | omega | exact Nat.le_refl _⟩, ⟨by (with_reducible repeat (first | apply Kd.R_alloc | apply Kd.R_drewN | apply Kd.R_drew)); exact Kd.R_mono (Kd.R_far (p := ⟨gb529, 1, none⟩) (Kd.R_far (p := ⟨gb529, 0, none⟩) (Kd.R_types HO523.out BK529.out (by decide)) (fun _ hk => hk.2) (.int .i64 t526)) (fun _ hk => hk.2) (.int .i64 t527)) (fun _ hk => trivial)⟩, ⟨by (with_reducible repeat (first | refine blk_drewN ?_ _ | refine blk_drew ?_ | refine blk_alloc ?_ _)); refine blk_far ?_ NB518_529.out _; (with_reducible repeat (first | refine blk_drewN ?_ _ | refine blk_drew ?_ | refine blk_alloc ?_ _)); refine blk_far ?_ NB518_529.out _; (with_reducible repeat (first | refine blk_drewN ?_ _ | refine blk_drew ?_ | refine blk_alloc ?_ _)); exact BK518.out⟩, ⟨by (with_reducible repeat (first | refine blk_drewN ?_ _ | refine blk_drew ?_ | refine blk_alloc ?_ _)); refine blk_far ?_ NB525_529.out _; (with_reducible repeat (first | refine blk_drewN ?_ _ | refine blk_drew ?_ | refine blk_alloc ?_ _)); refine blk_far ?_ NB525_529.out _; (with_reducible repeat (first | refine blk_drewN ?_ _ | refine blk_drew ?_ | refine blk_alloc ?_ _)); exact BK525.out⟩, ⟨by (with_reducible repeat (first | refine blk_drewN ?_ _ | refine blk_drew ?_ | refine blk_alloc ?_ _)); refine blk_put (cs := #[.int .i64 t526, .int .i64 0]) ?_ 1 _ rfl; (with_reducible repeat (first | refine blk_drewN ?_ _ | refine blk_drew ?_ | refine blk_alloc ?_ _)); refine blk_put (cs := #[.int .i64 0, .int .i64 0]) ?_ 0 _ rfl; (with_reducible repeat (first | refine blk_drewN ?_ _ | refine blk_drew ?_ | refine blk_alloc ?_ _)); exact BK529.out⟩, ⟨by repeat (first | (with_reducible first | exact HB.out | apply below_alloc | apply pw_below_drewN | apply below_drew1 | refine below_set ?_ GE518.out | refine below_set ?_ GE525.out | refine below_set ?_ GE529.out) | exact HB.out)⟩⟩
                · rw [if_neg c30] at H
                  have c30b0 : (t528 == 0) = false := beq_eq_false_iff_ne.mpr c30
                  have c30b1 : (t528 != 0) = true := bne_iff_ne.mpr c30
                  have H' := Aside0.mk H
                  clear H
                  go_wp2
                  repeat (go_quiet (fail); try go_wp2)
                  go_meet
                  case rel => exact ⟨_, (true), (by first | rfl | (simp; done) | (simp [*]; done)), H', ⟨by have := HJ7.out; first | omega | exact Nat.le_refl _⟩, ⟨by (with_reducible repeat (first | apply Kd.R_alloc | apply Kd.R_drewN | apply Kd.R_drew)); exact Kd.R_mono (Kd.R_far (p := ⟨gb529, 1, none⟩) (Kd.R_far (p := ⟨gb529, 0, none⟩) (Kd.R_types HO523.out BK529.out (by decide)) (fun _ hk => hk.2) (.int .i64 t526)) (fun _ hk => hk.2) (.int .i64 t527)) (fun _ hk => trivial)⟩, ⟨by (with_reducible repeat (first | refine blk_drewN ?_ _ | refine blk_drew ?_ | refine blk_alloc ?_ _)); refine blk_far ?_ NB518_529.out _; (with_reducible repeat (first | refine blk_drewN ?_ _ | refine blk_drew ?_ | refine blk_alloc ?_ _)); refine blk_far ?_ NB518_529.out _; (with_reducible repeat (first | refine blk_drewN ?_ _ | refine blk_drew ?_ | refine blk_alloc ?_ _)); exact BK518.out⟩, ⟨by (with_reducible repeat (first | refine blk_drewN ?_ _ | refine blk_drew ?_ | refine blk_alloc ?_ _)); refine blk_far ?_ NB525_529.out _; (with_reducible repeat (first | refine blk_drewN ?_ _ | refine blk_drew ?_ | refine blk_alloc ?_ _)); refine blk_far ?_ NB525_529.out _; (with_reducible repeat (first | refine blk_drewN ?_ _ | refine blk_drew ?_ | refine blk_alloc ?_ _)); exact BK525.out⟩, ⟨by (with_reducible repeat (first | refine blk_drewN ?_ _ | refine blk_drew ?_ | refine blk_alloc ?_ _)); refine blk_put (cs := #[.int .i64 t526, .int .i64 0]) ?_ 1 _ rfl; (with_reducible repeat (first | refine blk_drewN ?_ _ | refine blk_drew ?_ | refine blk_alloc ?_ _)); refine blk_put (cs := #[.int .i64 0, .int .i64 0]) ?_ 0 _ rfl; (with_reducible repeat (first | refine blk_drewN ?_ _ | refine blk_drew ?_ | refine blk_alloc ?_ _)); exact BK529.out⟩, ⟨by repeat (first | (with_reducible first | exact HB.out | apply below_alloc | apply pw_below_drewN | apply below_drew1 | refine below_set ?_ GE518.out | refine below_set ?_ GE525.out | refine below_set ?_ GE529.out) | exact HB.out)⟩⟩
              · rw [if_neg c29] at H
                have c29b0 : (t524 == 0) = false := beq_eq_false_iff_ne.mpr c29
                have c29b1 : (t524 != 0) = true := bne_iff_ne.mpr c29
                (first | rw [c29b0] | (simp only [i64_w, i32_w]; rw [c29b0]) | skip)
                have H' := Aside0.mk H
                clear H
                go_wp2
                repeat (go_quiet (fail); try go_wp2)
                go_meet
                case rel => exact ⟨_, (true), (by first | rfl | (simp; done) | (simp [*]; done)), H', ⟨by have := HJ7.out; first | omega | exact Nat.le_refl _⟩, ⟨by (with_reducible repeat (first | apply Kd.R_alloc | apply Kd.R_drewN | apply Kd.R_drew)); exact Kd.R_mono (Kd.R_far (p := ⟨gb529, 1, none⟩) (Kd.R_far (p := ⟨gb529, 0, none⟩) (Kd.R_types HO523.out BK529.out (by decide)) (fun _ hk => hk.2) (.int .i64 t526)) (fun _ hk => hk.2) (.int .i64 t527)) (fun _ hk => trivial)⟩, ⟨by (with_reducible repeat (first | refine blk_drewN ?_ _ | refine blk_drew ?_ | refine blk_alloc ?_ _)); refine blk_far ?_ NB518_529.out _; (with_reducible repeat (first | refine blk_drewN ?_ _ | refine blk_drew ?_ | refine blk_alloc ?_ _)); refine blk_far ?_ NB518_529.out _; (with_reducible repeat (first | refine blk_drewN ?_ _ | refine blk_drew ?_ | refine blk_alloc ?_ _)); exact BK518.out⟩, ⟨by (with_reducible repeat (first | refine blk_drewN ?_ _ | refine blk_drew ?_ | refine blk_alloc ?_ _)); refine blk_far ?_ NB525_529.out _; (with_reducible repeat (first | refine blk_drewN ?_ _ | refine blk_drew ?_ | refine blk_alloc ?_ _)); refine blk_far ?_ NB525_529.out _; (with_reducible repeat (first | refine blk_drewN ?_ _ | refine blk_drew ?_ | refine blk_alloc ?_ _)); exact BK525.out⟩, ⟨by (with_reducible repeat (first | refine blk_drewN ?_ _ | refine blk_drew ?_ | refine blk_alloc ?_ _)); refine blk_put (cs := #[.int .i64 t526, .int .i64 0]) ?_ 1 _ rfl; (with_reducible repeat (first | refine blk_drewN ?_ _ | refine blk_drew ?_ | refine blk_alloc ?_ _)); refine blk_put (cs := #[.int .i64 0, .int .i64 0]) ?_ 0 _ rfl; (with_reducible repeat (first | refine blk_drewN ?_ _ | refine blk_drew ?_ | refine blk_alloc ?_ _)); exact BK529.out⟩, ⟨by repeat (first | (with_reducible first | exact HB.out | apply below_alloc | apply pw_below_drewN | apply below_drew1 | refine below_set ?_ GE518.out | refine below_set ?_ GE525.out | refine below_set ?_ GE529.out) | exact HB.out)⟩⟩
            case rest =>
              clear HC18
              try clear c1
              try clear c2
              try clear p2
              try clear c3
              try clear c4
              try clear c6
              try clear c13
              try clear c13b0
              try clear c13b1
              try clear c15
              try clear c22
              try clear c26
              try clear c27
              try clear c29
              try clear c29b0
              try clear c29b1
              try clear c30
              try clear c30b0
              try clear c30b1
              try clear hcz12_0
              try clear hcz12_1
              try clear hcz14_0
              try clear hcz14_1
              try clear hcz19_0
              try clear hcz19_1
              try clear hcz23_0
              try clear hcz23_1
              try clear hcz28_0
              try clear hcz28_1
              try clear hfz12_0
              try clear hfz12_1
              try clear hfz14_0
              try clear hfz14_1
              try clear hfz19_0
              try clear hfz19_1
              try clear hfz23_0
              try clear hfz23_1
              try clear hfz28_0
              try clear hfz28_1
              try clear p2
              obtain ⟨kq, x57_17, rfl, HA, HJ17, HO_9, BK518, BK525, BK529, HB⟩ := hcut
              cases kq with
              | zero => exact absurd HA.out (by simp [crossbarlaw16_OriginTimeoutDecides.j1])
              | succ kj17 =>
                have H := HA.out
                clear HA
                simp only [crossbarlaw16_OriginTimeoutDecides.j1] at H
                by_cases c32 : x57_17 = true
                · subst c32
                  have H1 : (some false) = some r := by rw [if_pos rfl] at H; exact H
                  clear H
                  have H := H1
                  clear H1
                  exact absurd ((Option.some.inj H).trans ht) (by decide)
                · replace c32 := Bool.eq_false_iff.mpr c32
                  subst c32
                  have H1 : (if t526 = 2 then (if a1.toList = ([] : List UInt8) then (if (t519 == 5 && (t520.toList == ([] : List UInt8))) = true then (if (t521.length : Int) = 1 then (if 0 < (t521.length : Int) then (if ((rd_T62 t521 0).f0) = 3 then (some ((((rd_T62 t521 0).f1) == 102) == (a1.toList == ([] : List UInt8)))) else (some false)) else (none)) else (some false)) else (some false)) else (if 0 < (t521.length : Int) then (if ((rd_T62 t521 0).f2).toList = a1.toList then (if t519 = 2 then (if ((rd_T62 t521 0).f0) = 5 then (if ((rd_T62 t521 0).f3) = t527 then (some true) else (if t519 = 5 then (some (((rd_T62 t521 0).f0) == 6)) else (some false))) else (if t519 = 5 then (some (((rd_T62 t521 0).f0) == 6)) else (some false))) else (if t519 = 5 then (some (((rd_T62 t521 0).f0) == 6)) else (some false))) else (some false)) else (none))) else (if (t519 == 5 && (t520.toList == ([] : List UInt8))) = true then (if (t521.length : Int) = 1 then (if 0 < (t521.length : Int) then (if ((rd_T62 t521 0).f0) = 3 then (some ((((rd_T62 t521 0).f1) == 102) == (a1.toList == ([] : List UInt8)))) else (some false)) else (none)) else (some false)) else (some false))) = some r := by rw [if_neg (show ¬ (false = true) by decide)] at H; exact H
                  clear H
                  have H := H1
                  clear H1
                  by_cases c33 : t526 = 2
                  · rw [if_pos c33] at H
                    have c33b0 : (t526 == 2) = true := beq_iff_eq.mpr c33
                    have c33b1 : (t526 != 2) = false := bne_eq_false_iff_eq.mpr c33
                    clear c33
                    by_cases c34 : a1.toList = ([] : List UInt8)
                    · rw [if_pos c34] at H
                      have c34b0 : (a1.toList == ([] : List UInt8)) = true := beq_iff_eq.mpr c34
                      have c34b1 : (a1.toList != ([] : List UInt8)) = false := bne_eq_false_iff_eq.mpr c34
                      clear c34
                      by_cases c35 : (t519 == 5 && (t520.toList == ([] : List UInt8))) = true
                      · rw [if_pos c35] at H
                        have c35b0 : (t519 == 5 && (t520.toList == ([] : List UInt8))) = true := c35
                        (try (have c35b1 : decide (t519 = 5 && (t520.toList == ([] : List UInt8))) = true := by simpa using c35))
                        (try (have c35b2 : (t519 == 5 && (t520.toList == ([] : List UInt8))) = true := by simpa using c35))
                        have c35h_ : (t519 = 5 ∧ t520.toList = ([] : List UInt8)) = True := eq_true (by simpa using c35)
                        clear c35
                        by_cases c36 : (t521.length : Int) = 1
                        · rw [if_pos c36] at H
                          have c36b0 : ((t521.length : Int) == 1) = true := beq_iff_eq.mpr c36
                          have c36b1 : ((t521.length : Int) != 1) = false := bne_eq_false_iff_eq.mpr c36
                          clear c36
                          by_cases c37 : 0 < (t521.length : Int)
                          · rw [if_pos c37] at H
                            have c37b0 : decide (0 < (t521.length : Int)) = true := decide_eq_true c37
                            have c37b1 : decide (0 < t521.length) = true := decide_eq_true (by omega)
                            clear c37
                            by_cases c38 : ((rd_T62 t521 0).f0) = 3
                            · rw [if_pos c38] at H
                              have c38b0 : (((rd_T62 t521 0).f0) == 3) = true := beq_iff_eq.mpr c38
                              have c38b1 : (((rd_T62 t521 0).f0) != 3) = false := bne_eq_false_iff_eq.mpr c38
                              clear c38
                              obtain rfl := Option.some.inj H
                              clear ht
                              have hnb39 := NB529_518.out
                              have hnc39 := NB518_529.out
                              have hnb40 := NB529_525.out
                              have hnc40 := NB525_529.out
                              have hcz41_0 : wc.cell? ⟨gb529, 0, none⟩ = some (.int .i64 t526) := (blk_cell BK529.out 0).trans rfl
                              have hcz41_1 : wc.cell? ⟨gb529, 1, none⟩ = some (.int .i64 t527) := (blk_cell BK529.out 1).trans rfl
                              have hfz41_0 := blk_frozen BK529.out 0
                              have hfz41_1 := blk_frozen BK529.out 1
                              have hnb42 := NB525_518.out
                              have hnc42 := NB518_525.out
                              have hcz43_0 : wc.cell? ⟨gb525, 0, none⟩ = some (.int .i64 t519) := (blk_cell BK525.out 0).trans rfl
                              have hcz43_1 : wc.cell? ⟨gb525, 1, none⟩ = some (.string t520) := (blk_cell BK525.out 1).trans rfl
                              have hfz43_0 := blk_frozen BK525.out 0
                              have hfz43_1 := blk_frozen BK525.out 1
                              obtain ⟨Ao44, co44, eo44⟩ := Kd.R_slice HO_9.out
                              subst eo44
                              have p530 : 0 ≤ (0 : Int) := (by omega)
                              have q530 : 0 < (t521.length : Int) := of_decide_eq_true (by first | (with_reducible assumption) | assumption)
                              obtain ⟨ad530, e530, hx530_0, hx530_1, hx530_2, hx530_3⟩ := at_T62 (Kd.R_reads' HO_9.out).2.2 0 p530 q530
                              cases e530
                              have qi530 : (0 < t521.length) = True := eq_true (by omega)
                              (try rw [show ((0 : Int)).toNat = 0 from rfl] at hx530_0)
                              (try rw [show 0 * 4 = 0 from rfl] at hx530_0)
                              (try rw [Addr.add_zero'] at hx530_0)
                              (try rw [show ((0 : Int)).toNat = 0 from rfl] at hx530_1)
                              (try rw [show 0 * 4 = 0 from rfl] at hx530_1)
                              (try rw [Addr.add_zero'] at hx530_1)
                              (try rw [show ((0 : Int)).toNat = 0 from rfl] at hx530_2)
                              (try rw [show 0 * 4 = 0 from rfl] at hx530_2)
                              (try rw [Addr.add_zero'] at hx530_2)
                              (try rw [show ((0 : Int)).toNat = 0 from rfl] at hx530_3)
                              (try rw [show 0 * 4 = 0 from rfl] at hx530_3)
                              (try rw [Addr.add_zero'] at hx530_3)
                              replace p530 := eq_true p530
                              replace q530 := eq_true q530
                              have p531 : 0 ≤ (0 : Int) := (by omega)
                              have q531 : 0 < (t521.length : Int) := of_decide_eq_true (by first | (with_reducible assumption) | assumption)
                              obtain ⟨ad531, e531, hx531_0, hx531_1, hx531_2, hx531_3⟩ := at_T62 (Kd.R_reads' HO_9.out).2.2 0 p531 q531
                              obtain rfl : ad530 = ad531 := (by injection e531)
                              have qi531 : (0 < t521.length) = True := eq_true (by omega)
                              (try rw [show ((0 : Int)).toNat = 0 from rfl] at hx531_0)
                              (try rw [show 0 * 4 = 0 from rfl] at hx531_0)
                              (try rw [Addr.add_zero'] at hx531_0)
                              (try rw [show ((0 : Int)).toNat = 0 from rfl] at hx531_1)
                              (try rw [show 0 * 4 = 0 from rfl] at hx531_1)
                              (try rw [Addr.add_zero'] at hx531_1)
                              (try rw [show ((0 : Int)).toNat = 0 from rfl] at hx531_2)
                              (try rw [show 0 * 4 = 0 from rfl] at hx531_2)
                              (try rw [Addr.add_zero'] at hx531_2)
                              (try rw [show ((0 : Int)).toNat = 0 from rfl] at hx531_3)
                              (try rw [show 0 * 4 = 0 from rfl] at hx531_3)
                              (try rw [Addr.add_zero'] at hx531_3)
                              replace p531 := eq_true p531
                              replace q531 := eq_true q531
                              go_wp2
                              repeat (go_quiet (fail); try go_wp2)
                              go_ret
                              exact ⟨by first | rfl | (simp [errW_none, errW_some] <;> rfl) | (simp [*, errW_none, errW_some] <;> rfl), by repeat (first | (with_reducible first | exact HB.out | apply below_alloc | apply pw_below_drewN | apply below_drew1 | refine below_set ?_ GE518.out | refine below_set ?_ GE525.out | refine below_set ?_ GE529.out) | exact HB.out)⟩
                            · rw [if_neg c38] at H
                              have c38b0 : (((rd_T62 t521 0).f0) == 3) = false := beq_eq_false_iff_ne.mpr c38
                              have c38b1 : (((rd_T62 t521 0).f0) != 3) = true := bne_iff_ne.mpr c38
                              exact absurd ((Option.some.inj H).trans ht) (by decide)
                          · rw [if_neg c37] at H
                            exact absurd H (by simp)
                        · rw [if_neg c36] at H
                          have c36b0 : ((t521.length : Int) == 1) = false := beq_eq_false_iff_ne.mpr c36
                          have c36b1 : ((t521.length : Int) != 1) = true := bne_iff_ne.mpr c36
                          exact absurd ((Option.some.inj H).trans ht) (by decide)
                      · rw [if_neg c35] at H
                        have c35b0 : (t519 == 5 && (t520.toList == ([] : List UInt8))) = false := by simpa using c35
                        (try (have c35b1 : decide (t519 = 5 && (t520.toList == ([] : List UInt8))) = false := by simpa using c35))
                        (try (have c35b2 : (t519 == 5 && (t520.toList == ([] : List UInt8))) = false := by simpa using c35))
                        (try (have c35b3 : ¬ (t519 = 5 && (t520.toList == ([] : List UInt8))) := by simpa using c35))
                        clear c35
                        exact absurd ((Option.some.inj H).trans ht) (by decide)
                    · rw [if_neg c34] at H
                      have c34b0 : (a1.toList == ([] : List UInt8)) = false := beq_eq_false_iff_ne.mpr c34
                      have c34b1 : (a1.toList != ([] : List UInt8)) = true := bne_iff_ne.mpr c34
                      by_cases c62 : 0 < (t521.length : Int)
                      · rw [if_pos c62] at H
                        have c62b0 : decide (0 < (t521.length : Int)) = true := decide_eq_true c62
                        have c62b1 : decide (0 < t521.length) = true := decide_eq_true (by omega)
                        clear c62
                        by_cases c63 : ((rd_T62 t521 0).f2).toList = a1.toList
                        · rw [if_pos c63] at H
                          have c63b0 : (((rd_T62 t521 0).f2).toList == a1.toList) = true := beq_iff_eq.mpr c63
                          have c63b1 : (((rd_T62 t521 0).f2).toList != a1.toList) = false := bne_eq_false_iff_eq.mpr c63
                          clear c63
                          by_cases c64 : t519 = 2
                          · rw [if_pos c64] at H
                            have c64b0 : (t519 == 2) = true := beq_iff_eq.mpr c64
                            have c64b1 : (t519 != 2) = false := bne_eq_false_iff_eq.mpr c64
                            clear c64
                            by_cases c65 : ((rd_T62 t521 0).f0) = 5
                            · rw [if_pos c65] at H
                              have c65b0 : (((rd_T62 t521 0).f0) == 5) = true := beq_iff_eq.mpr c65
                              have c65b1 : (((rd_T62 t521 0).f0) != 5) = false := bne_eq_false_iff_eq.mpr c65
                              clear c65
                              by_cases c66 : ((rd_T62 t521 0).f3) = t527
                              · rw [if_pos c66] at H
                                have c66b0 : (((rd_T62 t521 0).f3) == t527) = true := beq_iff_eq.mpr c66
                                have c66b1 : (((rd_T62 t521 0).f3) != t527) = false := bne_eq_false_iff_eq.mpr c66
                                clear c66
                                obtain rfl := Option.some.inj H
                                clear ht
                                have hnb67 := NB529_518.out
                                have hnc67 := NB518_529.out
                                have hnb68 := NB529_525.out
                                have hnc68 := NB525_529.out
                                have hcz69_0 : wc.cell? ⟨gb529, 0, none⟩ = some (.int .i64 t526) := (blk_cell BK529.out 0).trans rfl
                                have hcz69_1 : wc.cell? ⟨gb529, 1, none⟩ = some (.int .i64 t527) := (blk_cell BK529.out 1).trans rfl
                                have hfz69_0 := blk_frozen BK529.out 0
                                have hfz69_1 := blk_frozen BK529.out 1
                                obtain ⟨Ao70, co70, eo70⟩ := Kd.R_slice HO_9.out
                                subst eo70
                                have p532 : 0 ≤ (0 : Int) := (by omega)
                                have q532 : 0 < (t521.length : Int) := of_decide_eq_true (by first | (with_reducible assumption) | assumption)
                                obtain ⟨ad532, e532, hx532_0, hx532_1, hx532_2, hx532_3⟩ := at_T62 (Kd.R_reads' HO_9.out).2.2 0 p532 q532
                                cases e532
                                have qi532 : (0 < t521.length) = True := eq_true (by omega)
                                (try rw [show ((0 : Int)).toNat = 0 from rfl] at hx532_0)
                                (try rw [show 0 * 4 = 0 from rfl] at hx532_0)
                                (try rw [Addr.add_zero'] at hx532_0)
                                (try rw [show ((0 : Int)).toNat = 0 from rfl] at hx532_1)
                                (try rw [show 0 * 4 = 0 from rfl] at hx532_1)
                                (try rw [Addr.add_zero'] at hx532_1)
                                (try rw [show ((0 : Int)).toNat = 0 from rfl] at hx532_2)
                                (try rw [show 0 * 4 = 0 from rfl] at hx532_2)
                                (try rw [Addr.add_zero'] at hx532_2)
                                (try rw [show ((0 : Int)).toNat = 0 from rfl] at hx532_3)
                                (try rw [show 0 * 4 = 0 from rfl] at hx532_3)
                                (try rw [Addr.add_zero'] at hx532_3)
                                replace p532 := eq_true p532
                                replace q532 := eq_true q532
                                have hnb71 := NB525_518.out
                                have hnc71 := NB518_525.out
                                have hcz72_0 : wc.cell? ⟨gb525, 0, none⟩ = some (.int .i64 t519) := (blk_cell BK525.out 0).trans rfl
                                have hcz72_1 : wc.cell? ⟨gb525, 1, none⟩ = some (.string t520) := (blk_cell BK525.out 1).trans rfl
                                have hfz72_0 := blk_frozen BK525.out 0
                                have hfz72_1 := blk_frozen BK525.out 1
                                have p533 : 0 ≤ (0 : Int) := (by omega)
                                have q533 : 0 < (t521.length : Int) := of_decide_eq_true (by first | (with_reducible assumption) | assumption)
                                obtain ⟨ad533, e533, hx533_0, hx533_1, hx533_2, hx533_3⟩ := at_T62 (Kd.R_reads' HO_9.out).2.2 0 p533 q533
                                obtain rfl : ad532 = ad533 := (by injection e533)
                                have qi533 : (0 < t521.length) = True := eq_true (by omega)
                                (try rw [show ((0 : Int)).toNat = 0 from rfl] at hx533_0)
                                (try rw [show 0 * 4 = 0 from rfl] at hx533_0)
                                (try rw [Addr.add_zero'] at hx533_0)
                                (try rw [show ((0 : Int)).toNat = 0 from rfl] at hx533_1)
                                (try rw [show 0 * 4 = 0 from rfl] at hx533_1)
                                (try rw [Addr.add_zero'] at hx533_1)
                                (try rw [show ((0 : Int)).toNat = 0 from rfl] at hx533_2)
                                (try rw [show 0 * 4 = 0 from rfl] at hx533_2)
                                (try rw [Addr.add_zero'] at hx533_2)
                                (try rw [show ((0 : Int)).toNat = 0 from rfl] at hx533_3)
                                (try rw [show 0 * 4 = 0 from rfl] at hx533_3)
                                (try rw [Addr.add_zero'] at hx533_3)
                                replace p533 := eq_true p533
                                replace q533 := eq_true q533
                                have p534 : 0 ≤ (0 : Int) := (by omega)
                                have q534 : 0 < (t521.length : Int) := of_decide_eq_true (by first | (with_reducible assumption) | assumption)
                                obtain ⟨ad534, e534, hx534_0, hx534_1, hx534_2, hx534_3⟩ := at_T62 (Kd.R_reads' HO_9.out).2.2 0 p534 q534
                                obtain rfl : ad532 = ad534 := (by injection e534)
                                have qi534 : (0 < t521.length) = True := eq_true (by omega)
                                (try rw [show ((0 : Int)).toNat = 0 from rfl] at hx534_0)
                                (try rw [show 0 * 4 = 0 from rfl] at hx534_0)
                                (try rw [Addr.add_zero'] at hx534_0)
                                (try rw [show ((0 : Int)).toNat = 0 from rfl] at hx534_1)
                                (try rw [show 0 * 4 = 0 from rfl] at hx534_1)
                                (try rw [Addr.add_zero'] at hx534_1)
                                (try rw [show ((0 : Int)).toNat = 0 from rfl] at hx534_2)
                                (try rw [show 0 * 4 = 0 from rfl] at hx534_2)
                                (try rw [Addr.add_zero'] at hx534_2)
                                (try rw [show ((0 : Int)).toNat = 0 from rfl] at hx534_3)
                                (try rw [show 0 * 4 = 0 from rfl] at hx534_3)
                                (try rw [Addr.add_zero'] at hx534_3)
                                replace p534 := eq_true p534
                                replace q534 := eq_true q534
                                go_wp2
                                repeat (go_quiet (fail); try go_wp2)
                                go_ret
                                exact ⟨by first | rfl | (simp [errW_none, errW_some] <;> rfl) | (simp [*, errW_none, errW_some] <;> rfl), by repeat (first | (with_reducible first | exact HB.out | apply below_alloc | apply pw_below_drewN | apply below_drew1 | refine below_set ?_ GE518.out | refine below_set ?_ GE525.out | refine below_set ?_ GE529.out) | exact HB.out)⟩
                              · rw [if_neg c66] at H
                                have c66b0 : (((rd_T62 t521 0).f3) == t527) = false := beq_eq_false_iff_ne.mpr c66
                                have c66b1 : (((rd_T62 t521 0).f3) != t527) = true := bne_iff_ne.mpr c66
                                by_cases c73 : t519 = 5
                                · rw [if_pos c73] at H
                                  have c73b0 : (t519 == 5) = true := beq_iff_eq.mpr c73
                                  have c73b1 : (t519 != 5) = false := bne_eq_false_iff_eq.mpr c73
                                  clear c73
                                  obtain rfl := Option.some.inj H
                                  clear ht
                                  have hnb74 := NB529_518.out
                                  have hnc74 := NB518_529.out
                                  have hnb75 := NB529_525.out
                                  have hnc75 := NB525_529.out
                                  have hcz76_0 : wc.cell? ⟨gb529, 0, none⟩ = some (.int .i64 t526) := (blk_cell BK529.out 0).trans rfl
                                  have hcz76_1 : wc.cell? ⟨gb529, 1, none⟩ = some (.int .i64 t527) := (blk_cell BK529.out 1).trans rfl
                                  have hfz76_0 := blk_frozen BK529.out 0
                                  have hfz76_1 := blk_frozen BK529.out 1
                                  obtain ⟨Ao77, co77, eo77⟩ := Kd.R_slice HO_9.out
                                  subst eo77
                                  have p532 : 0 ≤ (0 : Int) := (by omega)
                                  have q532 : 0 < (t521.length : Int) := of_decide_eq_true (by first | (with_reducible assumption) | assumption)
                                  obtain ⟨ad532, e532, hx532_0, hx532_1, hx532_2, hx532_3⟩ := at_T62 (Kd.R_reads' HO_9.out).2.2 0 p532 q532
                                  cases e532
                                  have qi532 : (0 < t521.length) = True := eq_true (by omega)
                                  (try rw [show ((0 : Int)).toNat = 0 from rfl] at hx532_0)
                                  (try rw [show 0 * 4 = 0 from rfl] at hx532_0)
                                  (try rw [Addr.add_zero'] at hx532_0)
                                  (try rw [show ((0 : Int)).toNat = 0 from rfl] at hx532_1)
                                  (try rw [show 0 * 4 = 0 from rfl] at hx532_1)
                                  (try rw [Addr.add_zero'] at hx532_1)
                                  (try rw [show ((0 : Int)).toNat = 0 from rfl] at hx532_2)
                                  (try rw [show 0 * 4 = 0 from rfl] at hx532_2)
                                  (try rw [Addr.add_zero'] at hx532_2)
                                  (try rw [show ((0 : Int)).toNat = 0 from rfl] at hx532_3)
                                  (try rw [show 0 * 4 = 0 from rfl] at hx532_3)
                                  (try rw [Addr.add_zero'] at hx532_3)
                                  replace p532 := eq_true p532
                                  replace q532 := eq_true q532
                                  have hnb78 := NB525_518.out
                                  have hnc78 := NB518_525.out
                                  have hcz79_0 : wc.cell? ⟨gb525, 0, none⟩ = some (.int .i64 t519) := (blk_cell BK525.out 0).trans rfl
                                  have hcz79_1 : wc.cell? ⟨gb525, 1, none⟩ = some (.string t520) := (blk_cell BK525.out 1).trans rfl
                                  have hfz79_0 := blk_frozen BK525.out 0
                                  have hfz79_1 := blk_frozen BK525.out 1
                                  have p533 : 0 ≤ (0 : Int) := (by omega)
                                  have q533 : 0 < (t521.length : Int) := of_decide_eq_true (by first | (with_reducible assumption) | assumption)
                                  obtain ⟨ad533, e533, hx533_0, hx533_1, hx533_2, hx533_3⟩ := at_T62 (Kd.R_reads' HO_9.out).2.2 0 p533 q533
                                  obtain rfl : ad532 = ad533 := (by injection e533)
                                  have qi533 : (0 < t521.length) = True := eq_true (by omega)
                                  (try rw [show ((0 : Int)).toNat = 0 from rfl] at hx533_0)
                                  (try rw [show 0 * 4 = 0 from rfl] at hx533_0)
                                  (try rw [Addr.add_zero'] at hx533_0)
                                  (try rw [show ((0 : Int)).toNat = 0 from rfl] at hx533_1)
                                  (try rw [show 0 * 4 = 0 from rfl] at hx533_1)
                                  (try rw [Addr.add_zero'] at hx533_1)
                                  (try rw [show ((0 : Int)).toNat = 0 from rfl] at hx533_2)
                                  (try rw [show 0 * 4 = 0 from rfl] at hx533_2)
                                  (try rw [Addr.add_zero'] at hx533_2)
                                  (try rw [show ((0 : Int)).toNat = 0 from rfl] at hx533_3)
                                  (try rw [show 0 * 4 = 0 from rfl] at hx533_3)
                                  (try rw [Addr.add_zero'] at hx533_3)
                                  replace p533 := eq_true p533
                                  replace q533 := eq_true q533
                                  have p534 : 0 ≤ (0 : Int) := (by omega)
                                  have q534 : 0 < (t521.length : Int) := of_decide_eq_true (by first | (with_reducible assumption) | assumption)
                                  obtain ⟨ad534, e534, hx534_0, hx534_1, hx534_2, hx534_3⟩ := at_T62 (Kd.R_reads' HO_9.out).2.2 0 p534 q534
                                  obtain rfl : ad532 = ad534 := (by injection e534)
                                  have qi534 : (0 < t521.length) = True := eq_true (by omega)
                                  (try rw [show ((0 : Int)).toNat = 0 from rfl] at hx534_0)
                                  (try rw [show 0 * 4 = 0 from rfl] at hx534_0)
                                  (try rw [Addr.add_zero'] at hx534_0)
                                  (try rw [show ((0 : Int)).toNat = 0 from rfl] at hx534_1)
                                  (try rw [show 0 * 4 = 0 from rfl] at hx534_1)
                                  (try rw [Addr.add_zero'] at hx534_1)
                                  (try rw [show ((0 : Int)).toNat = 0 from rfl] at hx534_2)
                                  (try rw [show 0 * 4 = 0 from rfl] at hx534_2)
                                  (try rw [Addr.add_zero'] at hx534_2)
                                  (try rw [show ((0 : Int)).toNat = 0 from rfl] at hx534_3)
                                  (try rw [show 0 * 4 = 0 from rfl] at hx534_3)
                                  (try rw [Addr.add_zero'] at hx534_3)
                                  replace p534 := eq_true p534
                                  replace q534 := eq_true q534
                                  have p535 : 0 ≤ (0 : Int) := (by omega)
                                  have q535 : 0 < (t521.length : Int) := of_decide_eq_true (by first | (with_reducible assumption) | assumption)
                                  obtain ⟨ad535, e535, hx535_0, hx535_1, hx535_2, hx535_3⟩ := at_T62 (Kd.R_reads' HO_9.out).2.2 0 p535 q535
                                  obtain rfl : ad532 = ad535 := (by injection e535)
                                  have qi535 : (0 < t521.length) = True := eq_true (by omega)
                                  (try rw [show ((0 : Int)).toNat = 0 from rfl] at hx535_0)
                                  (try rw [show 0 * 4 = 0 from rfl] at hx535_0)
                                  (try rw [Addr.add_zero'] at hx535_0)
                                  (try rw [show ((0 : Int)).toNat = 0 from rfl] at hx535_1)
                                  (try rw [show 0 * 4 = 0 from rfl] at hx535_1)
                                  (try rw [Addr.add_zero'] at hx535_1)
                                  (try rw [show ((0 : Int)).toNat = 0 from rfl] at hx535_2)
                                  (try rw [show 0 * 4 = 0 from rfl] at hx535_2)
                                  (try rw [Addr.add_zero'] at hx535_2)
                                  (try rw [show ((0 : Int)).toNat = 0 from rfl] at hx535_3)
                                  (try rw [show 0 * 4 = 0 from rfl] at hx535_3)
                                  (try rw [Addr.add_zero'] at hx535_3)
                                  replace p535 := eq_true p535
                                  replace q535 := eq_true q535
                                  go_wp2
                                  repeat (go_quiet (fail); try go_wp2)
                                  go_ret
                                  exact ⟨by first | rfl | (simp [errW_none, errW_some] <;> rfl) | (simp [*, errW_none, errW_some] <;> rfl), by repeat (first | (with_reducible first | exact HB.out | apply below_alloc | apply pw_below_drewN | apply below_drew1 | refine below_set ?_ GE518.out | refine below_set ?_ GE525.out | refine below_set ?_ GE529.out) | exact HB.out)⟩
                                · rw [if_neg c73] at H
                                  have c73b0 : (t519 == 5) = false := beq_eq_false_iff_ne.mpr c73
                                  have c73b1 : (t519 != 5) = true := bne_iff_ne.mpr c73
                                  exact absurd ((Option.some.inj H).trans ht) (by decide)
                            · rw [if_neg c65] at H
                              have c65b0 : (((rd_T62 t521 0).f0) == 5) = false := beq_eq_false_iff_ne.mpr c65
                              have c65b1 : (((rd_T62 t521 0).f0) != 5) = true := bne_iff_ne.mpr c65
                              by_cases c86 : t519 = 5
                              · rw [if_pos c86] at H
                                have c86b0 : (t519 == 5) = true := beq_iff_eq.mpr c86
                                have c86b1 : (t519 != 5) = false := bne_eq_false_iff_eq.mpr c86
                                clear c86
                                obtain rfl := Option.some.inj H
                                clear ht
                                have hnb87 := NB529_518.out
                                have hnc87 := NB518_529.out
                                have hnb88 := NB529_525.out
                                have hnc88 := NB525_529.out
                                have hcz89_0 : wc.cell? ⟨gb529, 0, none⟩ = some (.int .i64 t526) := (blk_cell BK529.out 0).trans rfl
                                have hcz89_1 : wc.cell? ⟨gb529, 1, none⟩ = some (.int .i64 t527) := (blk_cell BK529.out 1).trans rfl
                                have hfz89_0 := blk_frozen BK529.out 0
                                have hfz89_1 := blk_frozen BK529.out 1
                                obtain ⟨Ao90, co90, eo90⟩ := Kd.R_slice HO_9.out
                                subst eo90
                                have p532 : 0 ≤ (0 : Int) := (by omega)
                                have q532 : 0 < (t521.length : Int) := of_decide_eq_true (by first | (with_reducible assumption) | assumption)
                                obtain ⟨ad532, e532, hx532_0, hx532_1, hx532_2, hx532_3⟩ := at_T62 (Kd.R_reads' HO_9.out).2.2 0 p532 q532
                                cases e532
                                have qi532 : (0 < t521.length) = True := eq_true (by omega)
                                (try rw [show ((0 : Int)).toNat = 0 from rfl] at hx532_0)
                                (try rw [show 0 * 4 = 0 from rfl] at hx532_0)
                                (try rw [Addr.add_zero'] at hx532_0)
                                (try rw [show ((0 : Int)).toNat = 0 from rfl] at hx532_1)
                                (try rw [show 0 * 4 = 0 from rfl] at hx532_1)
                                (try rw [Addr.add_zero'] at hx532_1)
                                (try rw [show ((0 : Int)).toNat = 0 from rfl] at hx532_2)
                                (try rw [show 0 * 4 = 0 from rfl] at hx532_2)
                                (try rw [Addr.add_zero'] at hx532_2)
                                (try rw [show ((0 : Int)).toNat = 0 from rfl] at hx532_3)
                                (try rw [show 0 * 4 = 0 from rfl] at hx532_3)
                                (try rw [Addr.add_zero'] at hx532_3)
                                replace p532 := eq_true p532
                                replace q532 := eq_true q532
                                have hnb91 := NB525_518.out
                                have hnc91 := NB518_525.out
                                have hcz92_0 : wc.cell? ⟨gb525, 0, none⟩ = some (.int .i64 t519) := (blk_cell BK525.out 0).trans rfl
                                have hcz92_1 : wc.cell? ⟨gb525, 1, none⟩ = some (.string t520) := (blk_cell BK525.out 1).trans rfl
                                have hfz92_0 := blk_frozen BK525.out 0
                                have hfz92_1 := blk_frozen BK525.out 1
                                have p533 : 0 ≤ (0 : Int) := (by omega)
                                have q533 : 0 < (t521.length : Int) := of_decide_eq_true (by first | (with_reducible assumption) | assumption)
                                obtain ⟨ad533, e533, hx533_0, hx533_1, hx533_2, hx533_3⟩ := at_T62 (Kd.R_reads' HO_9.out).2.2 0 p533 q533
                                obtain rfl : ad532 = ad533 := (by injection e533)
                                have qi533 : (0 < t521.length) = True := eq_true (by omega)
                                (try rw [show ((0 : Int)).toNat = 0 from rfl] at hx533_0)
                                (try rw [show 0 * 4 = 0 from rfl] at hx533_0)
                                (try rw [Addr.add_zero'] at hx533_0)
                                (try rw [show ((0 : Int)).toNat = 0 from rfl] at hx533_1)
                                (try rw [show 0 * 4 = 0 from rfl] at hx533_1)
                                (try rw [Addr.add_zero'] at hx533_1)
                                (try rw [show ((0 : Int)).toNat = 0 from rfl] at hx533_2)
                                (try rw [show 0 * 4 = 0 from rfl] at hx533_2)
                                (try rw [Addr.add_zero'] at hx533_2)
                                (try rw [show ((0 : Int)).toNat = 0 from rfl] at hx533_3)
                                (try rw [show 0 * 4 = 0 from rfl] at hx533_3)
                                (try rw [Addr.add_zero'] at hx533_3)
                                replace p533 := eq_true p533
                                replace q533 := eq_true q533
                                have p536 : 0 ≤ (0 : Int) := (by omega)
                                have q536 : 0 < (t521.length : Int) := of_decide_eq_true (by first | (with_reducible assumption) | assumption)
                                obtain ⟨ad536, e536, hx536_0, hx536_1, hx536_2, hx536_3⟩ := at_T62 (Kd.R_reads' HO_9.out).2.2 0 p536 q536
                                obtain rfl : ad532 = ad536 := (by injection e536)
                                have qi536 : (0 < t521.length) = True := eq_true (by omega)
                                (try rw [show ((0 : Int)).toNat = 0 from rfl] at hx536_0)
                                (try rw [show 0 * 4 = 0 from rfl] at hx536_0)
                                (try rw [Addr.add_zero'] at hx536_0)
                                (try rw [show ((0 : Int)).toNat = 0 from rfl] at hx536_1)
                                (try rw [show 0 * 4 = 0 from rfl] at hx536_1)
                                (try rw [Addr.add_zero'] at hx536_1)
                                (try rw [show ((0 : Int)).toNat = 0 from rfl] at hx536_2)
                                (try rw [show 0 * 4 = 0 from rfl] at hx536_2)
                                (try rw [Addr.add_zero'] at hx536_2)
                                (try rw [show ((0 : Int)).toNat = 0 from rfl] at hx536_3)
                                (try rw [show 0 * 4 = 0 from rfl] at hx536_3)
                                (try rw [Addr.add_zero'] at hx536_3)
                                replace p536 := eq_true p536
                                replace q536 := eq_true q536
                                go_wp2
                                repeat (go_quiet (fail); try go_wp2)
                                go_ret
                                exact ⟨by first | rfl | (simp [errW_none, errW_some] <;> rfl) | (simp [*, errW_none, errW_some] <;> rfl), by repeat (first | (with_reducible first | exact HB.out | apply below_alloc | apply pw_below_drewN | apply below_drew1 | refine below_set ?_ GE518.out | refine below_set ?_ GE525.out | refine below_set ?_ GE529.out) | exact HB.out)⟩
                              · rw [if_neg c86] at H
                                have c86b0 : (t519 == 5) = false := beq_eq_false_iff_ne.mpr c86
                                have c86b1 : (t519 != 5) = true := bne_iff_ne.mpr c86
                                exact absurd ((Option.some.inj H).trans ht) (by decide)
                          · rw [if_neg c64] at H
                            have c64b0 : (t519 == 2) = false := beq_eq_false_iff_ne.mpr c64
                            have c64b1 : (t519 != 2) = true := bne_iff_ne.mpr c64
                            by_cases c99 : t519 = 5
                            · rw [if_pos c99] at H
                              have c99b0 : (t519 == 5) = true := beq_iff_eq.mpr c99
                              have c99b1 : (t519 != 5) = false := bne_eq_false_iff_eq.mpr c99
                              clear c99
                              obtain rfl := Option.some.inj H
                              clear ht
                              have hnb100 := NB529_518.out
                              have hnc100 := NB518_529.out
                              have hnb101 := NB529_525.out
                              have hnc101 := NB525_529.out
                              have hcz102_0 : wc.cell? ⟨gb529, 0, none⟩ = some (.int .i64 t526) := (blk_cell BK529.out 0).trans rfl
                              have hcz102_1 : wc.cell? ⟨gb529, 1, none⟩ = some (.int .i64 t527) := (blk_cell BK529.out 1).trans rfl
                              have hfz102_0 := blk_frozen BK529.out 0
                              have hfz102_1 := blk_frozen BK529.out 1
                              obtain ⟨Ao103, co103, eo103⟩ := Kd.R_slice HO_9.out
                              subst eo103
                              have p532 : 0 ≤ (0 : Int) := (by omega)
                              have q532 : 0 < (t521.length : Int) := of_decide_eq_true (by first | (with_reducible assumption) | assumption)
                              obtain ⟨ad532, e532, hx532_0, hx532_1, hx532_2, hx532_3⟩ := at_T62 (Kd.R_reads' HO_9.out).2.2 0 p532 q532
                              cases e532
                              have qi532 : (0 < t521.length) = True := eq_true (by omega)
                              (try rw [show ((0 : Int)).toNat = 0 from rfl] at hx532_0)
                              (try rw [show 0 * 4 = 0 from rfl] at hx532_0)
                              (try rw [Addr.add_zero'] at hx532_0)
                              (try rw [show ((0 : Int)).toNat = 0 from rfl] at hx532_1)
                              (try rw [show 0 * 4 = 0 from rfl] at hx532_1)
                              (try rw [Addr.add_zero'] at hx532_1)
                              (try rw [show ((0 : Int)).toNat = 0 from rfl] at hx532_2)
                              (try rw [show 0 * 4 = 0 from rfl] at hx532_2)
                              (try rw [Addr.add_zero'] at hx532_2)
                              (try rw [show ((0 : Int)).toNat = 0 from rfl] at hx532_3)
                              (try rw [show 0 * 4 = 0 from rfl] at hx532_3)
                              (try rw [Addr.add_zero'] at hx532_3)
                              replace p532 := eq_true p532
                              replace q532 := eq_true q532
                              have hnb104 := NB525_518.out
                              have hnc104 := NB518_525.out
                              have hcz105_0 : wc.cell? ⟨gb525, 0, none⟩ = some (.int .i64 t519) := (blk_cell BK525.out 0).trans rfl
                              have hcz105_1 : wc.cell? ⟨gb525, 1, none⟩ = some (.string t520) := (blk_cell BK525.out 1).trans rfl
                              have hfz105_0 := blk_frozen BK525.out 0
                              have hfz105_1 := blk_frozen BK525.out 1
                              have p537 : 0 ≤ (0 : Int) := (by omega)
                              have q537 : 0 < (t521.length : Int) := of_decide_eq_true (by first | (with_reducible assumption) | assumption)
                              obtain ⟨ad537, e537, hx537_0, hx537_1, hx537_2, hx537_3⟩ := at_T62 (Kd.R_reads' HO_9.out).2.2 0 p537 q537
                              obtain rfl : ad532 = ad537 := (by injection e537)
                              have qi537 : (0 < t521.length) = True := eq_true (by omega)
                              (try rw [show ((0 : Int)).toNat = 0 from rfl] at hx537_0)
                              (try rw [show 0 * 4 = 0 from rfl] at hx537_0)
                              (try rw [Addr.add_zero'] at hx537_0)
                              (try rw [show ((0 : Int)).toNat = 0 from rfl] at hx537_1)
                              (try rw [show 0 * 4 = 0 from rfl] at hx537_1)
                              (try rw [Addr.add_zero'] at hx537_1)
                              (try rw [show ((0 : Int)).toNat = 0 from rfl] at hx537_2)
                              (try rw [show 0 * 4 = 0 from rfl] at hx537_2)
                              (try rw [Addr.add_zero'] at hx537_2)
                              (try rw [show ((0 : Int)).toNat = 0 from rfl] at hx537_3)
                              (try rw [show 0 * 4 = 0 from rfl] at hx537_3)
                              (try rw [Addr.add_zero'] at hx537_3)
                              replace p537 := eq_true p537
                              replace q537 := eq_true q537
                              go_wp2
                              repeat (go_quiet (fail); try go_wp2)
                              go_ret
                              exact ⟨by first | rfl | (simp [errW_none, errW_some] <;> rfl) | (simp [*, errW_none, errW_some] <;> rfl), by repeat (first | (with_reducible first | exact HB.out | apply below_alloc | apply pw_below_drewN | apply below_drew1 | refine below_set ?_ GE518.out | refine below_set ?_ GE525.out | refine below_set ?_ GE529.out) | exact HB.out)⟩
                            · rw [if_neg c99] at H
                              have c99b0 : (t519 == 5) = false := beq_eq_false_iff_ne.mpr c99
                              have c99b1 : (t519 != 5) = true := bne_iff_ne.mpr c99
                              exact absurd ((Option.some.inj H).trans ht) (by decide)
                        · rw [if_neg c63] at H
                          have c63b0 : (((rd_T62 t521 0).f2).toList == a1.toList) = false := beq_eq_false_iff_ne.mpr c63
                          have c63b1 : (((rd_T62 t521 0).f2).toList != a1.toList) = true := bne_iff_ne.mpr c63
                          exact absurd ((Option.some.inj H).trans ht) (by decide)
                      · rw [if_neg c62] at H
                        exact absurd H (by simp)
                  · rw [if_neg c33] at H
                    have c33b0 : (t526 == 2) = false := beq_eq_false_iff_ne.mpr c33
                    have c33b1 : (t526 != 2) = true := bne_iff_ne.mpr c33
                    by_cases c116 : (t519 == 5 && (t520.toList == ([] : List UInt8))) = true
                    · rw [if_pos c116] at H
                      have c116b0 : (t519 == 5 && (t520.toList == ([] : List UInt8))) = true := c116
                      (try (have c116b1 : decide (t519 = 5 && (t520.toList == ([] : List UInt8))) = true := by simpa using c116))
                      (try (have c116b2 : (t519 == 5 && (t520.toList == ([] : List UInt8))) = true := by simpa using c116))
                      have c116h_ : (t519 = 5 ∧ t520.toList = ([] : List UInt8)) = True := eq_true (by simpa using c116)
                      clear c116
                      by_cases c117 : (t521.length : Int) = 1
                      · rw [if_pos c117] at H
                        have c117b0 : ((t521.length : Int) == 1) = true := beq_iff_eq.mpr c117
                        have c117b1 : ((t521.length : Int) != 1) = false := bne_eq_false_iff_eq.mpr c117
                        clear c117
                        by_cases c118 : 0 < (t521.length : Int)
                        · rw [if_pos c118] at H
                          have c118b0 : decide (0 < (t521.length : Int)) = true := decide_eq_true c118
                          have c118b1 : decide (0 < t521.length) = true := decide_eq_true (by omega)
                          clear c118
                          by_cases c119 : ((rd_T62 t521 0).f0) = 3
                          · rw [if_pos c119] at H
                            have c119b0 : (((rd_T62 t521 0).f0) == 3) = true := beq_iff_eq.mpr c119
                            have c119b1 : (((rd_T62 t521 0).f0) != 3) = false := bne_eq_false_iff_eq.mpr c119
                            clear c119
                            obtain rfl := Option.some.inj H
                            clear ht
                            have hnb120 := NB529_518.out
                            have hnc120 := NB518_529.out
                            have hnb121 := NB529_525.out
                            have hnc121 := NB525_529.out
                            have hcz122_0 : wc.cell? ⟨gb529, 0, none⟩ = some (.int .i64 t526) := (blk_cell BK529.out 0).trans rfl
                            have hcz122_1 : wc.cell? ⟨gb529, 1, none⟩ = some (.int .i64 t527) := (blk_cell BK529.out 1).trans rfl
                            have hfz122_0 := blk_frozen BK529.out 0
                            have hfz122_1 := blk_frozen BK529.out 1
                            have hnb123 := NB525_518.out
                            have hnc123 := NB518_525.out
                            have hcz124_0 : wc.cell? ⟨gb525, 0, none⟩ = some (.int .i64 t519) := (blk_cell BK525.out 0).trans rfl
                            have hcz124_1 : wc.cell? ⟨gb525, 1, none⟩ = some (.string t520) := (blk_cell BK525.out 1).trans rfl
                            have hfz124_0 := blk_frozen BK525.out 0
                            have hfz124_1 := blk_frozen BK525.out 1
                            obtain ⟨Ao125, co125, eo125⟩ := Kd.R_slice HO_9.out
                            subst eo125
                            have p538 : 0 ≤ (0 : Int) := (by omega)
                            have q538 : 0 < (t521.length : Int) := of_decide_eq_true (by first | (with_reducible assumption) | assumption)
                            obtain ⟨ad538, e538, hx538_0, hx538_1, hx538_2, hx538_3⟩ := at_T62 (Kd.R_reads' HO_9.out).2.2 0 p538 q538
                            cases e538
                            have qi538 : (0 < t521.length) = True := eq_true (by omega)
                            (try rw [show ((0 : Int)).toNat = 0 from rfl] at hx538_0)
                            (try rw [show 0 * 4 = 0 from rfl] at hx538_0)
                            (try rw [Addr.add_zero'] at hx538_0)
                            (try rw [show ((0 : Int)).toNat = 0 from rfl] at hx538_1)
                            (try rw [show 0 * 4 = 0 from rfl] at hx538_1)
                            (try rw [Addr.add_zero'] at hx538_1)
                            (try rw [show ((0 : Int)).toNat = 0 from rfl] at hx538_2)
                            (try rw [show 0 * 4 = 0 from rfl] at hx538_2)
                            (try rw [Addr.add_zero'] at hx538_2)
                            (try rw [show ((0 : Int)).toNat = 0 from rfl] at hx538_3)
                            (try rw [show 0 * 4 = 0 from rfl] at hx538_3)
                            (try rw [Addr.add_zero'] at hx538_3)
                            replace p538 := eq_true p538
                            replace q538 := eq_true q538
                            have p539 : 0 ≤ (0 : Int) := (by omega)
                            have q539 : 0 < (t521.length : Int) := of_decide_eq_true (by first | (with_reducible assumption) | assumption)
                            obtain ⟨ad539, e539, hx539_0, hx539_1, hx539_2, hx539_3⟩ := at_T62 (Kd.R_reads' HO_9.out).2.2 0 p539 q539
                            obtain rfl : ad538 = ad539 := (by injection e539)
                            have qi539 : (0 < t521.length) = True := eq_true (by omega)
                            (try rw [show ((0 : Int)).toNat = 0 from rfl] at hx539_0)
                            (try rw [show 0 * 4 = 0 from rfl] at hx539_0)
                            (try rw [Addr.add_zero'] at hx539_0)
                            (try rw [show ((0 : Int)).toNat = 0 from rfl] at hx539_1)
                            (try rw [show 0 * 4 = 0 from rfl] at hx539_1)
                            (try rw [Addr.add_zero'] at hx539_1)
                            (try rw [show ((0 : Int)).toNat = 0 from rfl] at hx539_2)
                            (try rw [show 0 * 4 = 0 from rfl] at hx539_2)
                            (try rw [Addr.add_zero'] at hx539_2)
                            (try rw [show ((0 : Int)).toNat = 0 from rfl] at hx539_3)
                            (try rw [show 0 * 4 = 0 from rfl] at hx539_3)
                            (try rw [Addr.add_zero'] at hx539_3)
                            replace p539 := eq_true p539
                            replace q539 := eq_true q539
                            go_wp2
                            repeat (go_quiet (fail); try go_wp2)
                            go_ret
                            exact ⟨by first | rfl | (simp [errW_none, errW_some] <;> rfl) | (simp [*, errW_none, errW_some] <;> rfl), by repeat (first | (with_reducible first | exact HB.out | apply below_alloc | apply pw_below_drewN | apply below_drew1 | refine below_set ?_ GE518.out | refine below_set ?_ GE525.out | refine below_set ?_ GE529.out) | exact HB.out)⟩
                          · rw [if_neg c119] at H
                            have c119b0 : (((rd_T62 t521 0).f0) == 3) = false := beq_eq_false_iff_ne.mpr c119
                            have c119b1 : (((rd_T62 t521 0).f0) != 3) = true := bne_iff_ne.mpr c119
                            exact absurd ((Option.some.inj H).trans ht) (by decide)
                        · rw [if_neg c118] at H
                          exact absurd H (by simp)
                      · rw [if_neg c117] at H
                        have c117b0 : ((t521.length : Int) == 1) = false := beq_eq_false_iff_ne.mpr c117
                        have c117b1 : ((t521.length : Int) != 1) = true := bne_iff_ne.mpr c117
                        exact absurd ((Option.some.inj H).trans ht) (by decide)
                    · rw [if_neg c116] at H
                      have c116b0 : (t519 == 5 && (t520.toList == ([] : List UInt8))) = false := by simpa using c116
                      (try (have c116b1 : decide (t519 = 5 && (t520.toList == ([] : List UInt8))) = false := by simpa using c116))
                      (try (have c116b2 : (t519 == 5 && (t520.toList == ([] : List UInt8))) = false := by simpa using c116))
                      (try (have c116b3 : ¬ (t519 = 5 && (t520.toList == ([] : List UInt8))) := by simpa using c116))
                      clear c116
                      exact absurd ((Option.some.inj H).trans ht) (by decide)
    · replace c6 := Bool.eq_false_iff.mpr c6
      subst c6
      have H1 : (some true) = some r := by rw [if_neg (show ¬ (false = true) by decide)] at H; exact H
      clear H
      have H := H1
      clear H1
      obtain rfl := Option.some.inj H
      clear ht
      go_enter Tryd.func13, Tryd.ntmps13
      go_wp2_with (first | (go_at_call 22; (with_reducible refine (crossbarlaw16_sane.calls  true _ A3.out).mono ?_); rintro e w143 ⟨rfl, hb⟩; have n0_ := Aside0.mk (below_step (by repeat (first | (with_reducible first | exact HB.out | apply below_alloc | apply pw_below_drewN | apply below_drew1) | exact HB.out)) hb); clear HB; have HB := n0_; clear n0_; (try clear hb); (try clear hb2); (try clear hk); (try clear hi)) | (go_at_call 23; (with_reducible refine (crossbarref16_Few.calls k _ _ l0 a1 false _ ?side1 ?side2 A5.out).mono ?_); (case side1 => repeat (first | exact (Kd.C_below HR0.out HB.out) | (with_reducible refine Kd.C_alloc ?_ _) | (with_reducible refine Kd.C_drewN ?_ _) | (with_reducible refine Kd.C_drew ?_))); (case side2 => exact HC0.out); rintro e w' ⟨rfl, ⟨nd, rfl⟩⟩; (try first | exact ⟨rfl, _, World.drewN_drewN _ _ _⟩ | exact ⟨rfl, _, Eq.trans (World.drewN_drewN _ _ _) (congrArg (World.drewN _) (Nat.add_assoc _ _ _))⟩)))
      repeat (go_quiet (first | (go_at_call 22; (with_reducible refine (crossbarlaw16_sane.calls  true _ A3.out).mono ?_); rintro e w143 ⟨rfl, hb⟩; have n0_ := Aside0.mk (below_step (by repeat (first | (with_reducible first | exact HB.out | apply below_alloc | apply pw_below_drewN | apply below_drew1) | exact HB.out)) hb); clear HB; have HB := n0_; clear n0_; (try clear hb); (try clear hb2); (try clear hk); (try clear hi)) | (go_at_call 23; (with_reducible refine (crossbarref16_Few.calls k _ _ l0 a1 false _ ?side1 ?side2 A5.out).mono ?_); (case side1 => repeat (first | exact (Kd.C_below HR0.out HB.out) | (with_reducible refine Kd.C_alloc ?_ _) | (with_reducible refine Kd.C_drewN ?_ _) | (with_reducible refine Kd.C_drew ?_))); (case side2 => exact HC0.out); rintro e w' ⟨rfl, ⟨nd, rfl⟩⟩; (try first | exact ⟨rfl, _, World.drewN_drewN _ _ _⟩ | exact ⟨rfl, _, Eq.trans (World.drewN_drewN _ _ _) (congrArg (World.drewN _) (Nat.add_assoc _ _ _))⟩))); try go_wp2_with (first | (go_at_call 22; (with_reducible refine (crossbarlaw16_sane.calls  true _ A3.out).mono ?_); rintro e w143 ⟨rfl, hb⟩; have n0_ := Aside0.mk (below_step (by repeat (first | (with_reducible first | exact HB.out | apply below_alloc | apply pw_below_drewN | apply below_drew1) | exact HB.out)) hb); clear HB; have HB := n0_; clear n0_; (try clear hb); (try clear hb2); (try clear hk); (try clear hi)) | (go_at_call 23; (with_reducible refine (crossbarref16_Few.calls k _ _ l0 a1 false _ ?side1 ?side2 A5.out).mono ?_); (case side1 => repeat (first | exact (Kd.C_below HR0.out HB.out) | (with_reducible refine Kd.C_alloc ?_ _) | (with_reducible refine Kd.C_drewN ?_ _) | (with_reducible refine Kd.C_drew ?_))); (case side2 => exact HC0.out); rintro e w' ⟨rfl, ⟨nd, rfl⟩⟩; (try first | exact ⟨rfl, _, World.drewN_drewN _ _ _⟩ | exact ⟨rfl, _, Eq.trans (World.drewN_drewN _ _ _) (congrArg (World.drewN _) (Nat.add_assoc _ _ _))⟩))))
      go_ret
      exact ⟨by first | rfl | (simp [errW_none, errW_some] <;> rfl) | (simp [*, errW_none, errW_some] <;> rfl), by repeat (first | (with_reducible first | exact HB.out | apply below_alloc | apply pw_below_drewN | apply below_drew1) | exact HB.out)⟩
  · replace c4 := Bool.eq_false_iff.mpr c4
    subst c4
    have H1 : (some false) = some r := by rw [if_neg (show ¬ (false = true) by decide)] at H; exact H
    clear H
    have H := H1
    clear H1
    exact absurd ((Option.some.inj H).trans ht) (by decide)
end Go.Proofs.YthknfclhkmehgaaDoor.Fn
