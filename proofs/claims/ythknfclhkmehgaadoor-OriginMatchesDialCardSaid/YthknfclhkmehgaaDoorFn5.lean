-- printed by a program of this session, out of the translation; Lean checks it
import Derived.Test.YthknfclhkmehgaaDoorFn0
import Derived.Test.YthknfclhkmehgaaDoorEAuto
import Derived.Test.YthknfclhkmehgaaDoorFn4
namespace Go.Proofs.YthknfclhkmehgaaDoor.Fn
open Go.RowKit Go.Proofs.YthknfclhkmehgaaDoorW.PrintWords Go.Proofs.YthknfclhkmehgaaDoorW.PrintLast Go.Proofs.YthknfclhkmehgaaDoorW.PrintMore
attribute [local go_sem] max2_int min2_int max_two min_two max_three min_three max_four min_four   -- for this text's walks alone
set_option linter.unusedVariables false
set_option linter.unusedSimpArgs false

/-! ### crossbarref08_Applicable: function 93 -/
def crossbarref08_Applicable.l0 : Nat → List (S35) → ByteArray → Int → List (S35) → Int → Int → Option (Int)
  | 0, _, _, _, _, _, _ => none
  | k + 1, x0, x1, x5, x8, x9, x10 => if x10 < x9 then (if 0 ≤ x10 then (if x10 < (x8.length : Int) then ((crossbarref08_Begins.f x1 ((rd_T35 x8 x10).f0)).bind fun t116 => (if t116 = true then (if x5 < 0 then (crossbarref08_Applicable.l0 k x0 x1 x10 x8 x9 (wrap64 (x10 + 1))) else (if 0 ≤ x5 then (if x5 < (x0.length : Int) then (if (((rd_T35 x8 x10).f0).size : Int) > (((rd_T35 x0 x5).f0).size : Int) then (crossbarref08_Applicable.l0 k x0 x1 x10 x8 x9 (wrap64 (x10 + 1))) else (crossbarref08_Applicable.l0 k x0 x1 x5 x8 x9 (wrap64 (x10 + 1)))) else (none)) else (none))) else (crossbarref08_Applicable.l0 k x0 x1 x5 x8 x9 (wrap64 (x10 + 1))))) else (none)) else (none)) else (some x5)
def crossbarref08_Applicable.f (k : Nat) (l0 : List (S35)) (a1 : ByteArray) : Option (Int) := crossbarref08_Applicable.l0 k l0 a1 (-1) l0 (l0.length : Int) 0
theorem crossbarref08_Applicable.mono_l : ∀ k, (∀ y0 y1 y2 y3 y4 y5, LeO (crossbarref08_Applicable.l0 k y0 y1 y2 y3 y4 y5) (crossbarref08_Applicable.l0 (k + 1) y0 y1 y2 y3 y4 y5))
  | 0 => fun _ _ _ _ _ _ r h => by simp [crossbarref08_Applicable.l0] at h
  | k + 1 => by
    have ih0 := crossbarref08_Applicable.mono_l k
    · intro y0 y1 y2 y3 y4 y5
      unfold crossbarref08_Applicable.l0
      repeat' first
      | (with_reducible exact ih0 _ _ _ _ _ _)
      | (with_reducible exact LeO.refl _)
      | (with_reducible exact LeO.none _)
      | (with_reducible refine LeO.ite ?_ ?_)
      | (with_reducible refine LeO.bind ?_ (fun _ => ?_))
      | exact ih0 _ _ _ _ _ _
      | exact LeO.none _
      | refine LeO.ite ?_ ?_
      | refine LeO.bind ?_ (fun _ => ?_)
theorem crossbarref08_Applicable.mono : ∀ a0 a1 k, LeO (crossbarref08_Applicable.f k a0 a1) (crossbarref08_Applicable.f (k + 1) a0 a1) := by
  intro a0 a1 k
  have ih0 := crossbarref08_Applicable.mono_l k
  unfold crossbarref08_Applicable.f
  repeat' first
      | (with_reducible exact ih0 _ _ _ _ _ _)
      | (with_reducible exact LeO.refl _)
      | (with_reducible exact LeO.none _)
      | (with_reducible refine LeO.ite ?_ ?_)
      | (with_reducible refine LeO.bind ?_ (fun _ => ?_))
      | exact ih0 _ _ _ _ _ _
      | exact LeO.none _
      | refine LeO.ite ?_ ?_
      | refine LeO.bind ?_ (fun _ => ?_)
set_option maxHeartbeats 8000000 in
set_option maxRecDepth 100000 in
theorem crossbarref08_Applicable.calls (k : Nat) (A0 : Option Addr) (c0 : Nat) (l0 : List (S35)) (a1 : ByteArray) (r : Int) (w : World) (hr0 : Kd.C k35 w A0 l0.length l0) (hc0 : l0.length ≤ c0) (h : crossbarref08_Applicable.f k l0 a1 = some r) :
    Calls Tryd.prog 93 #[.slice A0 l0.length c0, .string a1] w fun e w' => e = .returned (.int .i64 r) ∧ Below w.heap.size w w' := by
  have hu35 := Tryd.underlying35
  have HR0 := Aside0.mk hr0
  have HC0 := Aside0.mk hc0
  clear hr0 hc0
  have HB := Aside0.mk (Below.refl w.heap.size w)
  have H : (crossbarref08_Applicable.l0 k l0 a1 (-1) l0 (l0.length : Int) 0) = some r := h
  clear h
  have H' := Aside0.mk H
  clear H
  go_enter Tryd.func93, Tryd.ntmps93
  go_wp2
  repeat (go_quiet (fail); try go_wp2)
  go_loopg [5, 10] k (fun kq v5 v10 w' => ∃ (x5_1 : Int) (x10_1 : Int), v5 = .int .i64 x5_1 ∧ v10 = .int .i64 x10_1 ∧ Aside0 (crossbarref08_Applicable.l0 kq l0 a1 x5_1 l0 (l0.length : Int) x10_1 = some r) ∧ Aside0 (kq ≤ k) ∧ Aside0 (Below w.heap.size w w'))
  case atStart => exact ⟨((-1)), (0), rf_, rf_, H', ⟨Nat.le_refl _⟩, ⟨hb_⟩⟩
  case round =>
    clear H'
    try clear p2
    obtain ⟨x5_1, x10_1, rfl, rfl, HA, HK1, HB⟩ := hrel
    cases gk with
    | zero => exact absurd HA.out (by simp [crossbarref08_Applicable.l0])
    | succ k1 =>
      have H := HA.out
      clear HA
      simp only [crossbarref08_Applicable.l0] at H
      by_cases c3 : x10_1 < (l0.length : Int)
      · rw [if_pos c3] at H
        have c3b0 : decide (x10_1 < (l0.length : Int)) = true := decide_eq_true c3
        clear c3
        by_cases c4 : 0 ≤ x10_1
        · rw [if_pos c4] at H
          have c4b0 : decide (0 ≤ x10_1) = true := decide_eq_true c4
          clear c4
          by_cases c5 : x10_1 < (l0.length : Int)
          · rw [if_pos c5] at H
            have c5b0 : decide (x10_1 < (l0.length : Int)) = true := decide_eq_true c5
            clear c5
            replace H := Option.bind_eq_some_iff.mp H
            obtain ⟨t116, A60, H⟩ := H
            try dsimp only at H
            have A6 := Aside0.mk A60
            clear A60
            by_cases c7 : t116 = true
            · subst c7
              rw [if_pos rfl] at H
              by_cases c8 : x5_1 < 0
              · rw [if_pos c8] at H
                have c8b0 : decide (x5_1 < 0) = true := decide_eq_true c8
                clear c8
                have H' := Aside0.mk H
                clear H
                have p114 : 0 ≤ (x10_1 : Int) := dt_
                have q114 : x10_1 < (l0.length : Int) := dt_
                obtain ⟨ad114, e114, hx114_0, hx114_1, hx114_2, hx114_3⟩ := at_T35 HR0.out x10_1 p114 q114
                cases e114
                replace hx114_0 := hc_ HB hx114_0
                replace hx114_1 := hc_ HB hx114_1
                replace hx114_2 := hc_ HB hx114_2
                replace hx114_3 := hc_ HB hx114_3
                replace p114 := eq_true p114
                replace q114 := eq_true q114
                go_wp2_with (first | ((with_reducible refine gate_dst (N := 7) rfl ?_); (try (refine gate_guard (by rfl) ?_; dsimp only)); refine box_event ?hg (N := 7) ?hd (cs := #[.string (⟨#[]⟩ : ByteArray), .int .i64 0, .int .i64 0, .int .i64 0]) (t := 35) ?hr ?_; (case hd => rfl); (case hg => rfl); (case hr => exact gs_); intro gb115 hg w9 hbox hb; have n0_ := Aside0.mk (below_step hb_ hb); have n1_ := Aside0.mk (hbox); have n2_ := Aside0.mk ((by rw [hg]; exact (below_size hb_) : w.heap.size ≤ gb115)); have n3_ := n2_; clear HB; have HB := n0_; have BK115 := n1_; have GW115 := n2_; have GE115 := n3_; clear n0_ n1_ n2_ n3_; clear hb hbox hg; obtain ⟨hcz10_0, hcz10_1, hcz10_2, hcz10_3, hfz10_0, hfz10_1, hfz10_2, hfz10_3⟩ := bx4 BK115) | (go_at_call 99; (with_reducible refine (crossbarref08_Begins.calls a1 ((rd_T35 l0 x10_1).f0) true _ A6.out).mono ?_); rintro e w' ⟨rfl, ⟨nd, rfl⟩⟩; (try first | exact ⟨rfl, _, World.drewN_drewN _ _ _⟩ | exact ⟨rfl, _, Eq.trans (World.drewN_drewN _ _ _) (congrArg (World.drewN _) (Nat.add_assoc _ _ _))⟩)))
                repeat (go_quiet (first | ((with_reducible refine gate_dst (N := 7) rfl ?_); (try (refine gate_guard (by rfl) ?_; dsimp only)); refine box_event ?hg (N := 7) ?hd (cs := #[.string (⟨#[]⟩ : ByteArray), .int .i64 0, .int .i64 0, .int .i64 0]) (t := 35) ?hr ?_; (case hd => rfl); (case hg => rfl); (case hr => exact gs_); intro gb115 hg w9 hbox hb; have n0_ := Aside0.mk (below_step hb_ hb); have n1_ := Aside0.mk (hbox); have n2_ := Aside0.mk ((by rw [hg]; exact (below_size hb_) : w.heap.size ≤ gb115)); have n3_ := n2_; clear HB; have HB := n0_; have BK115 := n1_; have GW115 := n2_; have GE115 := n3_; clear n0_ n1_ n2_ n3_; clear hb hbox hg; obtain ⟨hcz10_0, hcz10_1, hcz10_2, hcz10_3, hfz10_0, hfz10_1, hfz10_2, hfz10_3⟩ := bx4 BK115) | (go_at_call 99; (with_reducible refine (crossbarref08_Begins.calls a1 ((rd_T35 l0 x10_1).f0) true _ A6.out).mono ?_); rintro e w' ⟨rfl, ⟨nd, rfl⟩⟩; (try first | exact ⟨rfl, _, World.drewN_drewN _ _ _⟩ | exact ⟨rfl, _, Eq.trans (World.drewN_drewN _ _ _) (congrArg (World.drewN _) (Nat.add_assoc _ _ _))⟩))); try go_wp2_with (first | ((with_reducible refine gate_dst (N := 7) rfl ?_); (try (refine gate_guard (by rfl) ?_; dsimp only)); refine box_event ?hg (N := 7) ?hd (cs := #[.string (⟨#[]⟩ : ByteArray), .int .i64 0, .int .i64 0, .int .i64 0]) (t := 35) ?hr ?_; (case hd => rfl); (case hg => rfl); (case hr => exact gs_); intro gb115 hg w9 hbox hb; have n0_ := Aside0.mk (below_step hb_ hb); have n1_ := Aside0.mk (hbox); have n2_ := Aside0.mk ((by rw [hg]; exact (below_size hb_) : w.heap.size ≤ gb115)); have n3_ := n2_; clear HB; have HB := n0_; have BK115 := n1_; have GW115 := n2_; have GE115 := n3_; clear n0_ n1_ n2_ n3_; clear hb hbox hg; obtain ⟨hcz10_0, hcz10_1, hcz10_2, hcz10_3, hfz10_0, hfz10_1, hfz10_2, hfz10_3⟩ := bx4 BK115) | (go_at_call 99; (with_reducible refine (crossbarref08_Begins.calls a1 ((rd_T35 l0 x10_1).f0) true _ A6.out).mono ?_); rintro e w' ⟨rfl, ⟨nd, rfl⟩⟩; (try first | exact ⟨rfl, _, World.drewN_drewN _ _ _⟩ | exact ⟨rfl, _, Eq.trans (World.drewN_drewN _ _ _) (congrArg (World.drewN _) (Nat.add_assoc _ _ _))⟩))))
                go_roundg k1
                case measure => have := HK1.out; omega
                case rel => exact ⟨(x10_1), (wrap64 (x10_1 + 1)), rf_, rf_, H', ⟨by have := HK1.out; omega⟩, ⟨hb_⟩⟩
              · rw [if_neg c8] at H
                have c8b0 : decide (x5_1 < 0) = false := decide_eq_false c8
                clear c8
                by_cases c11 : 0 ≤ x5_1
                · rw [if_pos c11] at H
                  have c11b0 : decide (0 ≤ x5_1) = true := decide_eq_true c11
                  clear c11
                  by_cases c12 : x5_1 < (l0.length : Int)
                  · rw [if_pos c12] at H
                    have c12b0 : decide (x5_1 < (l0.length : Int)) = true := decide_eq_true c12
                    clear c12
                    by_cases c13 : (((rd_T35 l0 x10_1).f0).size : Int) > (((rd_T35 l0 x5_1).f0).size : Int)
                    · rw [if_pos c13] at H
                      have c13b0 : decide ((((rd_T35 l0 x5_1).f0).size : Int) < (((rd_T35 l0 x10_1).f0).size : Int)) = true := decide_eq_true c13
                      have c13b1 : decide (((rd_T35 l0 x5_1).f0).size < ((rd_T35 l0 x10_1).f0).size) = true := decide_eq_true (Int.ofNat_lt.mp c13)
                      clear c13
                      have H' := Aside0.mk H
                      clear H
                      have p114 : 0 ≤ (x10_1 : Int) := dt_
                      have q114 : x10_1 < (l0.length : Int) := dt_
                      obtain ⟨ad114, e114, hx114_0, hx114_1, hx114_2, hx114_3⟩ := at_T35 HR0.out x10_1 p114 q114
                      cases e114
                      replace hx114_0 := hc_ HB hx114_0
                      replace hx114_1 := hc_ HB hx114_1
                      replace hx114_2 := hc_ HB hx114_2
                      replace hx114_3 := hc_ HB hx114_3
                      replace p114 := eq_true p114
                      replace q114 := eq_true q114
                      go_wp2_with (first | ((with_reducible refine gate_dst (N := 7) rfl ?_); (try (refine gate_guard (by rfl) ?_; dsimp only)); refine box_event ?hg (N := 7) ?hd (cs := #[.string (⟨#[]⟩ : ByteArray), .int .i64 0, .int .i64 0, .int .i64 0]) (t := 35) ?hr ?_; (case hd => rfl); (case hg => rfl); (case hr => exact gs_); intro gb115 hg w14 hbox hb; have n0_ := Aside0.mk (below_step hb_ hb); have n1_ := Aside0.mk (hbox); have n2_ := Aside0.mk ((by rw [hg]; exact (below_size hb_) : w.heap.size ≤ gb115)); have n3_ := n2_; clear HB; have HB := n0_; have BK115 := n1_; have GW115 := n2_; have GE115 := n3_; clear n0_ n1_ n2_ n3_; clear hb hbox hg; obtain ⟨hcz15_0, hcz15_1, hcz15_2, hcz15_3, hfz15_0, hfz15_1, hfz15_2, hfz15_3⟩ := bx4 BK115) | (go_at_call 99; (with_reducible refine (crossbarref08_Begins.calls a1 ((rd_T35 l0 x10_1).f0) true _ A6.out).mono ?_); rintro e w' ⟨rfl, ⟨nd, rfl⟩⟩; (try first | exact ⟨rfl, _, World.drewN_drewN _ _ _⟩ | exact ⟨rfl, _, Eq.trans (World.drewN_drewN _ _ _) (congrArg (World.drewN _) (Nat.add_assoc _ _ _))⟩); have p117 : 0 ≤ (x5_1 : Int) := dt_; have q117 : x5_1 < (l0.length : Int) := dt_; obtain ⟨ad117, e117, hx117_0, hx117_1, hx117_2, hx117_3⟩ := at_T35 HR0.out x5_1 p117 q117; obtain rfl : ad114 = ad117 := (by injection e117); have hn117_0 : ad114.block ≠ gb115 := Nat.ne_of_lt (Nat.lt_of_lt_of_le (by have := World.block_lt_of_cell? _ _ hx117_0; first | rwa [add_block] at this | exact this) GW115.out); have hn117_1 : ad114.block ≠ gb115 := Nat.ne_of_lt (Nat.lt_of_lt_of_le (by have := World.block_lt_of_cell? _ _ hx117_0; first | rwa [add_block] at this | exact this) GW115.out); have hn117_2 : ad114.block ≠ gb115 := Nat.ne_of_lt (Nat.lt_of_lt_of_le (by have := World.block_lt_of_cell? _ _ hx117_0; first | rwa [add_block] at this | exact this) GW115.out); have hn117_3 : ad114.block ≠ gb115 := Nat.ne_of_lt (Nat.lt_of_lt_of_le (by have := World.block_lt_of_cell? _ _ hx117_0; first | rwa [add_block] at this | exact this) GW115.out); replace hx117_0 := hc_ HB hx117_0; replace hx117_1 := hc_ HB hx117_1; replace hx117_2 := hc_ HB hx117_2; replace hx117_3 := hc_ HB hx117_3; replace hx117_0 := (cell_far (p := ⟨gb115, 0, none⟩) fa_ (.string ((rd_T35 l0 x10_1).f0))).trans hx117_0; replace hx117_1 := (cell_far (p := ⟨gb115, 0, none⟩) fa_ (.string ((rd_T35 l0 x10_1).f0))).trans hx117_1; replace hx117_2 := (cell_far (p := ⟨gb115, 0, none⟩) fa_ (.string ((rd_T35 l0 x10_1).f0))).trans hx117_2; replace hx117_3 := (cell_far (p := ⟨gb115, 0, none⟩) fa_ (.string ((rd_T35 l0 x10_1).f0))).trans hx117_3; replace hx117_0 := (cell_far (p := ⟨gb115, 1, none⟩) fa_ (.int .i64 ((rd_T35 l0 x10_1).f1))).trans hx117_0; replace hx117_1 := (cell_far (p := ⟨gb115, 1, none⟩) fa_ (.int .i64 ((rd_T35 l0 x10_1).f1))).trans hx117_1; replace hx117_2 := (cell_far (p := ⟨gb115, 1, none⟩) fa_ (.int .i64 ((rd_T35 l0 x10_1).f1))).trans hx117_2; replace hx117_3 := (cell_far (p := ⟨gb115, 1, none⟩) fa_ (.int .i64 ((rd_T35 l0 x10_1).f1))).trans hx117_3; replace hx117_0 := (cell_far (p := ⟨gb115, 2, none⟩) fa_ (.int .i64 ((rd_T35 l0 x10_1).f2))).trans hx117_0; replace hx117_1 := (cell_far (p := ⟨gb115, 2, none⟩) fa_ (.int .i64 ((rd_T35 l0 x10_1).f2))).trans hx117_1; replace hx117_2 := (cell_far (p := ⟨gb115, 2, none⟩) fa_ (.int .i64 ((rd_T35 l0 x10_1).f2))).trans hx117_2; replace hx117_3 := (cell_far (p := ⟨gb115, 2, none⟩) fa_ (.int .i64 ((rd_T35 l0 x10_1).f2))).trans hx117_3; replace hx117_0 := (cell_far (p := ⟨gb115, 3, none⟩) fa_ (.int .i64 ((rd_T35 l0 x10_1).f3))).trans hx117_0; replace hx117_1 := (cell_far (p := ⟨gb115, 3, none⟩) fa_ (.int .i64 ((rd_T35 l0 x10_1).f3))).trans hx117_1; replace hx117_2 := (cell_far (p := ⟨gb115, 3, none⟩) fa_ (.int .i64 ((rd_T35 l0 x10_1).f3))).trans hx117_2; replace hx117_3 := (cell_far (p := ⟨gb115, 3, none⟩) fa_ (.int .i64 ((rd_T35 l0 x10_1).f3))).trans hx117_3; (try have hy117_0 := fun (n_ : Nat) => (show ((((((w14.drewN n_).setCell ⟨gb115, 0, none⟩ (.string ((rd_T35 l0 x10_1).f0))).setCell ⟨gb115, 1, none⟩ (.int .i64 ((rd_T35 l0 x10_1).f1))).setCell ⟨gb115, 2, none⟩ (.int .i64 ((rd_T35 l0 x10_1).f2))).setCell ⟨gb115, 3, none⟩ (.int .i64 ((rd_T35 l0 x10_1).f3)))).cell? _ = some _ from hx117_0)); (try have hy117_1 := fun (n_ : Nat) => (show ((((((w14.drewN n_).setCell ⟨gb115, 0, none⟩ (.string ((rd_T35 l0 x10_1).f0))).setCell ⟨gb115, 1, none⟩ (.int .i64 ((rd_T35 l0 x10_1).f1))).setCell ⟨gb115, 2, none⟩ (.int .i64 ((rd_T35 l0 x10_1).f2))).setCell ⟨gb115, 3, none⟩ (.int .i64 ((rd_T35 l0 x10_1).f3)))).cell? _ = some _ from hx117_1)); (try have hy117_2 := fun (n_ : Nat) => (show ((((((w14.drewN n_).setCell ⟨gb115, 0, none⟩ (.string ((rd_T35 l0 x10_1).f0))).setCell ⟨gb115, 1, none⟩ (.int .i64 ((rd_T35 l0 x10_1).f1))).setCell ⟨gb115, 2, none⟩ (.int .i64 ((rd_T35 l0 x10_1).f2))).setCell ⟨gb115, 3, none⟩ (.int .i64 ((rd_T35 l0 x10_1).f3)))).cell? _ = some _ from hx117_2)); (try have hy117_3 := fun (n_ : Nat) => (show ((((((w14.drewN n_).setCell ⟨gb115, 0, none⟩ (.string ((rd_T35 l0 x10_1).f0))).setCell ⟨gb115, 1, none⟩ (.int .i64 ((rd_T35 l0 x10_1).f1))).setCell ⟨gb115, 2, none⟩ (.int .i64 ((rd_T35 l0 x10_1).f2))).setCell ⟨gb115, 3, none⟩ (.int .i64 ((rd_T35 l0 x10_1).f3)))).cell? _ = some _ from hx117_3)); clear hn117_0; clear hn117_1; clear hn117_2; clear hn117_3; replace p117 := eq_true p117; replace q117 := eq_true q117))
                      repeat (go_quiet (first | ((with_reducible refine gate_dst (N := 7) rfl ?_); (try (refine gate_guard (by rfl) ?_; dsimp only)); refine box_event ?hg (N := 7) ?hd (cs := #[.string (⟨#[]⟩ : ByteArray), .int .i64 0, .int .i64 0, .int .i64 0]) (t := 35) ?hr ?_; (case hd => rfl); (case hg => rfl); (case hr => exact gs_); intro gb115 hg w14 hbox hb; have n0_ := Aside0.mk (below_step hb_ hb); have n1_ := Aside0.mk (hbox); have n2_ := Aside0.mk ((by rw [hg]; exact (below_size hb_) : w.heap.size ≤ gb115)); have n3_ := n2_; clear HB; have HB := n0_; have BK115 := n1_; have GW115 := n2_; have GE115 := n3_; clear n0_ n1_ n2_ n3_; clear hb hbox hg; obtain ⟨hcz15_0, hcz15_1, hcz15_2, hcz15_3, hfz15_0, hfz15_1, hfz15_2, hfz15_3⟩ := bx4 BK115) | (go_at_call 99; (with_reducible refine (crossbarref08_Begins.calls a1 ((rd_T35 l0 x10_1).f0) true _ A6.out).mono ?_); rintro e w' ⟨rfl, ⟨nd, rfl⟩⟩; (try first | exact ⟨rfl, _, World.drewN_drewN _ _ _⟩ | exact ⟨rfl, _, Eq.trans (World.drewN_drewN _ _ _) (congrArg (World.drewN _) (Nat.add_assoc _ _ _))⟩); have p117 : 0 ≤ (x5_1 : Int) := dt_; have q117 : x5_1 < (l0.length : Int) := dt_; obtain ⟨ad117, e117, hx117_0, hx117_1, hx117_2, hx117_3⟩ := at_T35 HR0.out x5_1 p117 q117; obtain rfl : ad114 = ad117 := (by injection e117); have hn117_0 : ad114.block ≠ gb115 := Nat.ne_of_lt (Nat.lt_of_lt_of_le (by have := World.block_lt_of_cell? _ _ hx117_0; first | rwa [add_block] at this | exact this) GW115.out); have hn117_1 : ad114.block ≠ gb115 := Nat.ne_of_lt (Nat.lt_of_lt_of_le (by have := World.block_lt_of_cell? _ _ hx117_0; first | rwa [add_block] at this | exact this) GW115.out); have hn117_2 : ad114.block ≠ gb115 := Nat.ne_of_lt (Nat.lt_of_lt_of_le (by have := World.block_lt_of_cell? _ _ hx117_0; first | rwa [add_block] at this | exact this) GW115.out); have hn117_3 : ad114.block ≠ gb115 := Nat.ne_of_lt (Nat.lt_of_lt_of_le (by have := World.block_lt_of_cell? _ _ hx117_0; first | rwa [add_block] at this | exact this) GW115.out); replace hx117_0 := hc_ HB hx117_0; replace hx117_1 := hc_ HB hx117_1; replace hx117_2 := hc_ HB hx117_2; replace hx117_3 := hc_ HB hx117_3; replace hx117_0 := (cell_far (p := ⟨gb115, 0, none⟩) fa_ (.string ((rd_T35 l0 x10_1).f0))).trans hx117_0; replace hx117_1 := (cell_far (p := ⟨gb115, 0, none⟩) fa_ (.string ((rd_T35 l0 x10_1).f0))).trans hx117_1; replace hx117_2 := (cell_far (p := ⟨gb115, 0, none⟩) fa_ (.string ((rd_T35 l0 x10_1).f0))).trans hx117_2; replace hx117_3 := (cell_far (p := ⟨gb115, 0, none⟩) fa_ (.string ((rd_T35 l0 x10_1).f0))).trans hx117_3; replace hx117_0 := (cell_far (p := ⟨gb115, 1, none⟩) fa_ (.int .i64 ((rd_T35 l0 x10_1).f1))).trans hx117_0; replace hx117_1 := (cell_far (p := ⟨gb115, 1, none⟩) fa_ (.int .i64 ((rd_T35 l0 x10_1).f1))).trans hx117_1; replace hx117_2 := (cell_far (p := ⟨gb115, 1, none⟩) fa_ (.int .i64 ((rd_T35 l0 x10_1).f1))).trans hx117_2; replace hx117_3 := (cell_far (p := ⟨gb115, 1, none⟩) fa_ (.int .i64 ((rd_T35 l0 x10_1).f1))).trans hx117_3; replace hx117_0 := (cell_far (p := ⟨gb115, 2, none⟩) fa_ (.int .i64 ((rd_T35 l0 x10_1).f2))).trans hx117_0; replace hx117_1 := (cell_far (p := ⟨gb115, 2, none⟩) fa_ (.int .i64 ((rd_T35 l0 x10_1).f2))).trans hx117_1; replace hx117_2 := (cell_far (p := ⟨gb115, 2, none⟩) fa_ (.int .i64 ((rd_T35 l0 x10_1).f2))).trans hx117_2; replace hx117_3 := (cell_far (p := ⟨gb115, 2, none⟩) fa_ (.int .i64 ((rd_T35 l0 x10_1).f2))).trans hx117_3; replace hx117_0 := (cell_far (p := ⟨gb115, 3, none⟩) fa_ (.int .i64 ((rd_T35 l0 x10_1).f3))).trans hx117_0; replace hx117_1 := (cell_far (p := ⟨gb115, 3, none⟩) fa_ (.int .i64 ((rd_T35 l0 x10_1).f3))).trans hx117_1; replace hx117_2 := (cell_far (p := ⟨gb115, 3, none⟩) fa_ (.int .i64 ((rd_T35 l0 x10_1).f3))).trans hx117_2; replace hx117_3 := (cell_far (p := ⟨gb115, 3, none⟩) fa_ (.int .i64 ((rd_T35 l0 x10_1).f3))).trans hx117_3; (try have hy117_0 := fun (n_ : Nat) => (show ((((((w14.drewN n_).setCell ⟨gb115, 0, none⟩ (.string ((rd_T35 l0 x10_1).f0))).setCell ⟨gb115, 1, none⟩ (.int .i64 ((rd_T35 l0 x10_1).f1))).setCell ⟨gb115, 2, none⟩ (.int .i64 ((rd_T35 l0 x10_1).f2))).setCell ⟨gb115, 3, none⟩ (.int .i64 ((rd_T35 l0 x10_1).f3)))).cell? _ = some _ from hx117_0)); (try have hy117_1 := fun (n_ : Nat) => (show ((((((w14.drewN n_).setCell ⟨gb115, 0, none⟩ (.string ((rd_T35 l0 x10_1).f0))).setCell ⟨gb115, 1, none⟩ (.int .i64 ((rd_T35 l0 x10_1).f1))).setCell ⟨gb115, 2, none⟩ (.int .i64 ((rd_T35 l0 x10_1).f2))).setCell ⟨gb115, 3, none⟩ (.int .i64 ((rd_T35 l0 x10_1).f3)))).cell? _ = some _ from hx117_1)); (try have hy117_2 := fun (n_ : Nat) => (show ((((((w14.drewN n_).setCell ⟨gb115, 0, none⟩ (.string ((rd_T35 l0 x10_1).f0))).setCell ⟨gb115, 1, none⟩ (.int .i64 ((rd_T35 l0 x10_1).f1))).setCell ⟨gb115, 2, none⟩ (.int .i64 ((rd_T35 l0 x10_1).f2))).setCell ⟨gb115, 3, none⟩ (.int .i64 ((rd_T35 l0 x10_1).f3)))).cell? _ = some _ from hx117_2)); (try have hy117_3 := fun (n_ : Nat) => (show ((((((w14.drewN n_).setCell ⟨gb115, 0, none⟩ (.string ((rd_T35 l0 x10_1).f0))).setCell ⟨gb115, 1, none⟩ (.int .i64 ((rd_T35 l0 x10_1).f1))).setCell ⟨gb115, 2, none⟩ (.int .i64 ((rd_T35 l0 x10_1).f2))).setCell ⟨gb115, 3, none⟩ (.int .i64 ((rd_T35 l0 x10_1).f3)))).cell? _ = some _ from hx117_3)); clear hn117_0; clear hn117_1; clear hn117_2; clear hn117_3; replace p117 := eq_true p117; replace q117 := eq_true q117)); try go_wp2_with (first | ((with_reducible refine gate_dst (N := 7) rfl ?_); (try (refine gate_guard (by rfl) ?_; dsimp only)); refine box_event ?hg (N := 7) ?hd (cs := #[.string (⟨#[]⟩ : ByteArray), .int .i64 0, .int .i64 0, .int .i64 0]) (t := 35) ?hr ?_; (case hd => rfl); (case hg => rfl); (case hr => exact gs_); intro gb115 hg w14 hbox hb; have n0_ := Aside0.mk (below_step hb_ hb); have n1_ := Aside0.mk (hbox); have n2_ := Aside0.mk ((by rw [hg]; exact (below_size hb_) : w.heap.size ≤ gb115)); have n3_ := n2_; clear HB; have HB := n0_; have BK115 := n1_; have GW115 := n2_; have GE115 := n3_; clear n0_ n1_ n2_ n3_; clear hb hbox hg; obtain ⟨hcz15_0, hcz15_1, hcz15_2, hcz15_3, hfz15_0, hfz15_1, hfz15_2, hfz15_3⟩ := bx4 BK115) | (go_at_call 99; (with_reducible refine (crossbarref08_Begins.calls a1 ((rd_T35 l0 x10_1).f0) true _ A6.out).mono ?_); rintro e w' ⟨rfl, ⟨nd, rfl⟩⟩; (try first | exact ⟨rfl, _, World.drewN_drewN _ _ _⟩ | exact ⟨rfl, _, Eq.trans (World.drewN_drewN _ _ _) (congrArg (World.drewN _) (Nat.add_assoc _ _ _))⟩); have p117 : 0 ≤ (x5_1 : Int) := dt_; have q117 : x5_1 < (l0.length : Int) := dt_; obtain ⟨ad117, e117, hx117_0, hx117_1, hx117_2, hx117_3⟩ := at_T35 HR0.out x5_1 p117 q117; obtain rfl : ad114 = ad117 := (by injection e117); have hn117_0 : ad114.block ≠ gb115 := Nat.ne_of_lt (Nat.lt_of_lt_of_le (by have := World.block_lt_of_cell? _ _ hx117_0; first | rwa [add_block] at this | exact this) GW115.out); have hn117_1 : ad114.block ≠ gb115 := Nat.ne_of_lt (Nat.lt_of_lt_of_le (by have := World.block_lt_of_cell? _ _ hx117_0; first | rwa [add_block] at this | exact this) GW115.out); have hn117_2 : ad114.block ≠ gb115 := Nat.ne_of_lt (Nat.lt_of_lt_of_le (by have := World.block_lt_of_cell? _ _ hx117_0; first | rwa [add_block] at this | exact this) GW115.out); have hn117_3 : ad114.block ≠ gb115 := Nat.ne_of_lt (Nat.lt_of_lt_of_le (by have := World.block_lt_of_cell? _ _ hx117_0; first | rwa [add_block] at this | exact this) GW115.out); replace hx117_0 := hc_ HB hx117_0; replace hx117_1 := hc_ HB hx117_1; replace hx117_2 := hc_ HB hx117_2; replace hx117_3 := hc_ HB hx117_3; replace hx117_0 := (cell_far (p := ⟨gb115, 0, none⟩) fa_ (.string ((rd_T35 l0 x10_1).f0))).trans hx117_0; replace hx117_1 := (cell_far (p := ⟨gb115, 0, none⟩) fa_ (.string ((rd_T35 l0 x10_1).f0))).trans hx117_1; replace hx117_2 := (cell_far (p := ⟨gb115, 0, none⟩) fa_ (.string ((rd_T35 l0 x10_1).f0))).trans hx117_2; replace hx117_3 := (cell_far (p := ⟨gb115, 0, none⟩) fa_ (.string ((rd_T35 l0 x10_1).f0))).trans hx117_3; replace hx117_0 := (cell_far (p := ⟨gb115, 1, none⟩) fa_ (.int .i64 ((rd_T35 l0 x10_1).f1))).trans hx117_0; replace hx117_1 := (cell_far (p := ⟨gb115, 1, none⟩) fa_ (.int .i64 ((rd_T35 l0 x10_1).f1))).trans hx117_1; replace hx117_2 := (cell_far (p := ⟨gb115, 1, none⟩) fa_ (.int .i64 ((rd_T35 l0 x10_1).f1))).trans hx117_2; replace hx117_3 := (cell_far (p := ⟨gb115, 1, none⟩) fa_ (.int .i64 ((rd_T35 l0 x10_1).f1))).trans hx117_3; replace hx117_0 := (cell_far (p := ⟨gb115, 2, none⟩) fa_ (.int .i64 ((rd_T35 l0 x10_1).f2))).trans hx117_0; replace hx117_1 := (cell_far (p := ⟨gb115, 2, none⟩) fa_ (.int .i64 ((rd_T35 l0 x10_1).f2))).trans hx117_1; replace hx117_2 := (cell_far (p := ⟨gb115, 2, none⟩) fa_ (.int .i64 ((rd_T35 l0 x10_1).f2))).trans hx117_2; replace hx117_3 := (cell_far (p := ⟨gb115, 2, none⟩) fa_ (.int .i64 ((rd_T35 l0 x10_1).f2))).trans hx117_3; replace hx117_0 := (cell_far (p := ⟨gb115, 3, none⟩) fa_ (.int .i64 ((rd_T35 l0 x10_1).f3))).trans hx117_0; replace hx117_1 := (cell_far (p := ⟨gb115, 3, none⟩) fa_ (.int .i64 ((rd_T35 l0 x10_1).f3))).trans hx117_1; replace hx117_2 := (cell_far (p := ⟨gb115, 3, none⟩) fa_ (.int .i64 ((rd_T35 l0 x10_1).f3))).trans hx117_2; replace hx117_3 := (cell_far (p := ⟨gb115, 3, none⟩) fa_ (.int .i64 ((rd_T35 l0 x10_1).f3))).trans hx117_3; (try have hy117_0 := fun (n_ : Nat) => (show ((((((w14.drewN n_).setCell ⟨gb115, 0, none⟩ (.string ((rd_T35 l0 x10_1).f0))).setCell ⟨gb115, 1, none⟩ (.int .i64 ((rd_T35 l0 x10_1).f1))).setCell ⟨gb115, 2, none⟩ (.int .i64 ((rd_T35 l0 x10_1).f2))).setCell ⟨gb115, 3, none⟩ (.int .i64 ((rd_T35 l0 x10_1).f3)))).cell? _ = some _ from hx117_0)); (try have hy117_1 := fun (n_ : Nat) => (show ((((((w14.drewN n_).setCell ⟨gb115, 0, none⟩ (.string ((rd_T35 l0 x10_1).f0))).setCell ⟨gb115, 1, none⟩ (.int .i64 ((rd_T35 l0 x10_1).f1))).setCell ⟨gb115, 2, none⟩ (.int .i64 ((rd_T35 l0 x10_1).f2))).setCell ⟨gb115, 3, none⟩ (.int .i64 ((rd_T35 l0 x10_1).f3)))).cell? _ = some _ from hx117_1)); (try have hy117_2 := fun (n_ : Nat) => (show ((((((w14.drewN n_).setCell ⟨gb115, 0, none⟩ (.string ((rd_T35 l0 x10_1).f0))).setCell ⟨gb115, 1, none⟩ (.int .i64 ((rd_T35 l0 x10_1).f1))).setCell ⟨gb115, 2, none⟩ (.int .i64 ((rd_T35 l0 x10_1).f2))).setCell ⟨gb115, 3, none⟩ (.int .i64 ((rd_T35 l0 x10_1).f3)))).cell? _ = some _ from hx117_2)); (try have hy117_3 := fun (n_ : Nat) => (show ((((((w14.drewN n_).setCell ⟨gb115, 0, none⟩ (.string ((rd_T35 l0 x10_1).f0))).setCell ⟨gb115, 1, none⟩ (.int .i64 ((rd_T35 l0 x10_1).f1))).setCell ⟨gb115, 2, none⟩ (.int .i64 ((rd_T35 l0 x10_1).f2))).setCell ⟨gb115, 3, none⟩ (.int .i64 ((rd_T35 l0 x10_1).f3)))).cell? _ = some _ from hx117_3)); clear hn117_0; clear hn117_1; clear hn117_2; clear hn117_3; replace p117 := eq_true p117; replace q117 := eq_true q117)))
                      go_roundg k1
                      case measure => have := HK1.out; omega
                      case rel => exact ⟨(x10_1), (wrap64 (x10_1 + 1)), rf_, rf_, H', ⟨by have := HK1.out; omega⟩, ⟨hb_⟩⟩
                    · rw [if_neg c13] at H
                      have c13b0 : decide ((((rd_T35 l0 x5_1).f0).size : Int) < (((rd_T35 l0 x10_1).f0).size : Int)) = false := decide_eq_false c13
                      have c13b1 : decide (((rd_T35 l0 x5_1).f0).size < ((rd_T35 l0 x10_1).f0).size) = false := decide_eq_false (fun h => c13 (Int.ofNat_lt.mpr h))
                      clear c13
                      have H' := Aside0.mk H
                      clear H
                      have p114 : 0 ≤ (x10_1 : Int) := dt_
                      have q114 : x10_1 < (l0.length : Int) := dt_
                      obtain ⟨ad114, e114, hx114_0, hx114_1, hx114_2, hx114_3⟩ := at_T35 HR0.out x10_1 p114 q114
                      cases e114
                      replace hx114_0 := hc_ HB hx114_0
                      replace hx114_1 := hc_ HB hx114_1
                      replace hx114_2 := hc_ HB hx114_2
                      replace hx114_3 := hc_ HB hx114_3
                      replace p114 := eq_true p114
                      replace q114 := eq_true q114
                      go_wp2_with (first | ((with_reducible refine gate_dst (N := 7) rfl ?_); (try (refine gate_guard (by rfl) ?_; dsimp only)); refine box_event ?hg (N := 7) ?hd (cs := #[.string (⟨#[]⟩ : ByteArray), .int .i64 0, .int .i64 0, .int .i64 0]) (t := 35) ?hr ?_; (case hd => rfl); (case hg => rfl); (case hr => exact gs_); intro gb115 hg w16 hbox hb; have n0_ := Aside0.mk (below_step hb_ hb); have n1_ := Aside0.mk (hbox); have n2_ := Aside0.mk ((by rw [hg]; exact (below_size hb_) : w.heap.size ≤ gb115)); have n3_ := n2_; clear HB; have HB := n0_; have BK115 := n1_; have GW115 := n2_; have GE115 := n3_; clear n0_ n1_ n2_ n3_; clear hb hbox hg; obtain ⟨hcz17_0, hcz17_1, hcz17_2, hcz17_3, hfz17_0, hfz17_1, hfz17_2, hfz17_3⟩ := bx4 BK115) | (go_at_call 99; (with_reducible refine (crossbarref08_Begins.calls a1 ((rd_T35 l0 x10_1).f0) true _ A6.out).mono ?_); rintro e w' ⟨rfl, ⟨nd, rfl⟩⟩; (try first | exact ⟨rfl, _, World.drewN_drewN _ _ _⟩ | exact ⟨rfl, _, Eq.trans (World.drewN_drewN _ _ _) (congrArg (World.drewN _) (Nat.add_assoc _ _ _))⟩); have p117 : 0 ≤ (x5_1 : Int) := dt_; have q117 : x5_1 < (l0.length : Int) := dt_; obtain ⟨ad117, e117, hx117_0, hx117_1, hx117_2, hx117_3⟩ := at_T35 HR0.out x5_1 p117 q117; obtain rfl : ad114 = ad117 := (by injection e117); have hn117_0 : ad114.block ≠ gb115 := Nat.ne_of_lt (Nat.lt_of_lt_of_le (by have := World.block_lt_of_cell? _ _ hx117_0; first | rwa [add_block] at this | exact this) GW115.out); have hn117_1 : ad114.block ≠ gb115 := Nat.ne_of_lt (Nat.lt_of_lt_of_le (by have := World.block_lt_of_cell? _ _ hx117_0; first | rwa [add_block] at this | exact this) GW115.out); have hn117_2 : ad114.block ≠ gb115 := Nat.ne_of_lt (Nat.lt_of_lt_of_le (by have := World.block_lt_of_cell? _ _ hx117_0; first | rwa [add_block] at this | exact this) GW115.out); have hn117_3 : ad114.block ≠ gb115 := Nat.ne_of_lt (Nat.lt_of_lt_of_le (by have := World.block_lt_of_cell? _ _ hx117_0; first | rwa [add_block] at this | exact this) GW115.out); replace hx117_0 := hc_ HB hx117_0; replace hx117_1 := hc_ HB hx117_1; replace hx117_2 := hc_ HB hx117_2; replace hx117_3 := hc_ HB hx117_3; replace hx117_0 := (cell_far (p := ⟨gb115, 0, none⟩) fa_ (.string ((rd_T35 l0 x10_1).f0))).trans hx117_0; replace hx117_1 := (cell_far (p := ⟨gb115, 0, none⟩) fa_ (.string ((rd_T35 l0 x10_1).f0))).trans hx117_1; replace hx117_2 := (cell_far (p := ⟨gb115, 0, none⟩) fa_ (.string ((rd_T35 l0 x10_1).f0))).trans hx117_2; replace hx117_3 := (cell_far (p := ⟨gb115, 0, none⟩) fa_ (.string ((rd_T35 l0 x10_1).f0))).trans hx117_3; replace hx117_0 := (cell_far (p := ⟨gb115, 1, none⟩) fa_ (.int .i64 ((rd_T35 l0 x10_1).f1))).trans hx117_0; replace hx117_1 := (cell_far (p := ⟨gb115, 1, none⟩) fa_ (.int .i64 ((rd_T35 l0 x10_1).f1))).trans hx117_1; replace hx117_2 := (cell_far (p := ⟨gb115, 1, none⟩) fa_ (.int .i64 ((rd_T35 l0 x10_1).f1))).trans hx117_2; replace hx117_3 := (cell_far (p := ⟨gb115, 1, none⟩) fa_ (.int .i64 ((rd_T35 l0 x10_1).f1))).trans hx117_3; replace hx117_0 := (cell_far (p := ⟨gb115, 2, none⟩) fa_ (.int .i64 ((rd_T35 l0 x10_1).f2))).trans hx117_0; replace hx117_1 := (cell_far (p := ⟨gb115, 2, none⟩) fa_ (.int .i64 ((rd_T35 l0 x10_1).f2))).trans hx117_1; replace hx117_2 := (cell_far (p := ⟨gb115, 2, none⟩) fa_ (.int .i64 ((rd_T35 l0 x10_1).f2))).trans hx117_2; replace hx117_3 := (cell_far (p := ⟨gb115, 2, none⟩) fa_ (.int .i64 ((rd_T35 l0 x10_1).f2))).trans hx117_3; replace hx117_0 := (cell_far (p := ⟨gb115, 3, none⟩) fa_ (.int .i64 ((rd_T35 l0 x10_1).f3))).trans hx117_0; replace hx117_1 := (cell_far (p := ⟨gb115, 3, none⟩) fa_ (.int .i64 ((rd_T35 l0 x10_1).f3))).trans hx117_1; replace hx117_2 := (cell_far (p := ⟨gb115, 3, none⟩) fa_ (.int .i64 ((rd_T35 l0 x10_1).f3))).trans hx117_2; replace hx117_3 := (cell_far (p := ⟨gb115, 3, none⟩) fa_ (.int .i64 ((rd_T35 l0 x10_1).f3))).trans hx117_3; (try have hy117_0 := fun (n_ : Nat) => (show ((((((w16.drewN n_).setCell ⟨gb115, 0, none⟩ (.string ((rd_T35 l0 x10_1).f0))).setCell ⟨gb115, 1, none⟩ (.int .i64 ((rd_T35 l0 x10_1).f1))).setCell ⟨gb115, 2, none⟩ (.int .i64 ((rd_T35 l0 x10_1).f2))).setCell ⟨gb115, 3, none⟩ (.int .i64 ((rd_T35 l0 x10_1).f3)))).cell? _ = some _ from hx117_0)); (try have hy117_1 := fun (n_ : Nat) => (show ((((((w16.drewN n_).setCell ⟨gb115, 0, none⟩ (.string ((rd_T35 l0 x10_1).f0))).setCell ⟨gb115, 1, none⟩ (.int .i64 ((rd_T35 l0 x10_1).f1))).setCell ⟨gb115, 2, none⟩ (.int .i64 ((rd_T35 l0 x10_1).f2))).setCell ⟨gb115, 3, none⟩ (.int .i64 ((rd_T35 l0 x10_1).f3)))).cell? _ = some _ from hx117_1)); (try have hy117_2 := fun (n_ : Nat) => (show ((((((w16.drewN n_).setCell ⟨gb115, 0, none⟩ (.string ((rd_T35 l0 x10_1).f0))).setCell ⟨gb115, 1, none⟩ (.int .i64 ((rd_T35 l0 x10_1).f1))).setCell ⟨gb115, 2, none⟩ (.int .i64 ((rd_T35 l0 x10_1).f2))).setCell ⟨gb115, 3, none⟩ (.int .i64 ((rd_T35 l0 x10_1).f3)))).cell? _ = some _ from hx117_2)); (try have hy117_3 := fun (n_ : Nat) => (show ((((((w16.drewN n_).setCell ⟨gb115, 0, none⟩ (.string ((rd_T35 l0 x10_1).f0))).setCell ⟨gb115, 1, none⟩ (.int .i64 ((rd_T35 l0 x10_1).f1))).setCell ⟨gb115, 2, none⟩ (.int .i64 ((rd_T35 l0 x10_1).f2))).setCell ⟨gb115, 3, none⟩ (.int .i64 ((rd_T35 l0 x10_1).f3)))).cell? _ = some _ from hx117_3)); clear hn117_0; clear hn117_1; clear hn117_2; clear hn117_3; replace p117 := eq_true p117; replace q117 := eq_true q117))
                      repeat (go_quiet (first | ((with_reducible refine gate_dst (N := 7) rfl ?_); (try (refine gate_guard (by rfl) ?_; dsimp only)); refine box_event ?hg (N := 7) ?hd (cs := #[.string (⟨#[]⟩ : ByteArray), .int .i64 0, .int .i64 0, .int .i64 0]) (t := 35) ?hr ?_; (case hd => rfl); (case hg => rfl); (case hr => exact gs_); intro gb115 hg w16 hbox hb; have n0_ := Aside0.mk (below_step hb_ hb); have n1_ := Aside0.mk (hbox); have n2_ := Aside0.mk ((by rw [hg]; exact (below_size hb_) : w.heap.size ≤ gb115)); have n3_ := n2_; clear HB; have HB := n0_; have BK115 := n1_; have GW115 := n2_; have GE115 := n3_; clear n0_ n1_ n2_ n3_; clear hb hbox hg; obtain ⟨hcz17_0, hcz17_1, hcz17_2, hcz17_3, hfz17_0, hfz17_1, hfz17_2, hfz17_3⟩ := bx4 BK115) | (go_at_call 99; (with_reducible refine (crossbarref08_Begins.calls a1 ((rd_T35 l0 x10_1).f0) true _ A6.out).mono ?_); rintro e w' ⟨rfl, ⟨nd, rfl⟩⟩; (try first | exact ⟨rfl, _, World.drewN_drewN _ _ _⟩ | exact ⟨rfl, _, Eq.trans (World.drewN_drewN _ _ _) (congrArg (World.drewN _) (Nat.add_assoc _ _ _))⟩); have p117 : 0 ≤ (x5_1 : Int) := dt_; have q117 : x5_1 < (l0.length : Int) := dt_; obtain ⟨ad117, e117, hx117_0, hx117_1, hx117_2, hx117_3⟩ := at_T35 HR0.out x5_1 p117 q117; obtain rfl : ad114 = ad117 := (by injection e117); have hn117_0 : ad114.block ≠ gb115 := Nat.ne_of_lt (Nat.lt_of_lt_of_le (by have := World.block_lt_of_cell? _ _ hx117_0; first | rwa [add_block] at this | exact this) GW115.out); have hn117_1 : ad114.block ≠ gb115 := Nat.ne_of_lt (Nat.lt_of_lt_of_le (by have := World.block_lt_of_cell? _ _ hx117_0; first | rwa [add_block] at this | exact this) GW115.out); have hn117_2 : ad114.block ≠ gb115 := Nat.ne_of_lt (Nat.lt_of_lt_of_le (by have := World.block_lt_of_cell? _ _ hx117_0; first | rwa [add_block] at this | exact this) GW115.out); have hn117_3 : ad114.block ≠ gb115 := Nat.ne_of_lt (Nat.lt_of_lt_of_le (by have := World.block_lt_of_cell? _ _ hx117_0; first | rwa [add_block] at this | exact this) GW115.out); replace hx117_0 := hc_ HB hx117_0; replace hx117_1 := hc_ HB hx117_1; replace hx117_2 := hc_ HB hx117_2; replace hx117_3 := hc_ HB hx117_3; replace hx117_0 := (cell_far (p := ⟨gb115, 0, none⟩) fa_ (.string ((rd_T35 l0 x10_1).f0))).trans hx117_0; replace hx117_1 := (cell_far (p := ⟨gb115, 0, none⟩) fa_ (.string ((rd_T35 l0 x10_1).f0))).trans hx117_1; replace hx117_2 := (cell_far (p := ⟨gb115, 0, none⟩) fa_ (.string ((rd_T35 l0 x10_1).f0))).trans hx117_2; replace hx117_3 := (cell_far (p := ⟨gb115, 0, none⟩) fa_ (.string ((rd_T35 l0 x10_1).f0))).trans hx117_3; replace hx117_0 := (cell_far (p := ⟨gb115, 1, none⟩) fa_ (.int .i64 ((rd_T35 l0 x10_1).f1))).trans hx117_0; replace hx117_1 := (cell_far (p := ⟨gb115, 1, none⟩) fa_ (.int .i64 ((rd_T35 l0 x10_1).f1))).trans hx117_1; replace hx117_2 := (cell_far (p := ⟨gb115, 1, none⟩) fa_ (.int .i64 ((rd_T35 l0 x10_1).f1))).trans hx117_2; replace hx117_3 := (cell_far (p := ⟨gb115, 1, none⟩) fa_ (.int .i64 ((rd_T35 l0 x10_1).f1))).trans hx117_3; replace hx117_0 := (cell_far (p := ⟨gb115, 2, none⟩) fa_ (.int .i64 ((rd_T35 l0 x10_1).f2))).trans hx117_0; replace hx117_1 := (cell_far (p := ⟨gb115, 2, none⟩) fa_ (.int .i64 ((rd_T35 l0 x10_1).f2))).trans hx117_1; replace hx117_2 := (cell_far (p := ⟨gb115, 2, none⟩) fa_ (.int .i64 ((rd_T35 l0 x10_1).f2))).trans hx117_2; replace hx117_3 := (cell_far (p := ⟨gb115, 2, none⟩) fa_ (.int .i64 ((rd_T35 l0 x10_1).f2))).trans hx117_3; replace hx117_0 := (cell_far (p := ⟨gb115, 3, none⟩) fa_ (.int .i64 ((rd_T35 l0 x10_1).f3))).trans hx117_0; replace hx117_1 := (cell_far (p := ⟨gb115, 3, none⟩) fa_ (.int .i64 ((rd_T35 l0 x10_1).f3))).trans hx117_1; replace hx117_2 := (cell_far (p := ⟨gb115, 3, none⟩) fa_ (.int .i64 ((rd_T35 l0 x10_1).f3))).trans hx117_2; replace hx117_3 := (cell_far (p := ⟨gb115, 3, none⟩) fa_ (.int .i64 ((rd_T35 l0 x10_1).f3))).trans hx117_3; (try have hy117_0 := fun (n_ : Nat) => (show ((((((w16.drewN n_).setCell ⟨gb115, 0, none⟩ (.string ((rd_T35 l0 x10_1).f0))).setCell ⟨gb115, 1, none⟩ (.int .i64 ((rd_T35 l0 x10_1).f1))).setCell ⟨gb115, 2, none⟩ (.int .i64 ((rd_T35 l0 x10_1).f2))).setCell ⟨gb115, 3, none⟩ (.int .i64 ((rd_T35 l0 x10_1).f3)))).cell? _ = some _ from hx117_0)); (try have hy117_1 := fun (n_ : Nat) => (show ((((((w16.drewN n_).setCell ⟨gb115, 0, none⟩ (.string ((rd_T35 l0 x10_1).f0))).setCell ⟨gb115, 1, none⟩ (.int .i64 ((rd_T35 l0 x10_1).f1))).setCell ⟨gb115, 2, none⟩ (.int .i64 ((rd_T35 l0 x10_1).f2))).setCell ⟨gb115, 3, none⟩ (.int .i64 ((rd_T35 l0 x10_1).f3)))).cell? _ = some _ from hx117_1)); (try have hy117_2 := fun (n_ : Nat) => (show ((((((w16.drewN n_).setCell ⟨gb115, 0, none⟩ (.string ((rd_T35 l0 x10_1).f0))).setCell ⟨gb115, 1, none⟩ (.int .i64 ((rd_T35 l0 x10_1).f1))).setCell ⟨gb115, 2, none⟩ (.int .i64 ((rd_T35 l0 x10_1).f2))).setCell ⟨gb115, 3, none⟩ (.int .i64 ((rd_T35 l0 x10_1).f3)))).cell? _ = some _ from hx117_2)); (try have hy117_3 := fun (n_ : Nat) => (show ((((((w16.drewN n_).setCell ⟨gb115, 0, none⟩ (.string ((rd_T35 l0 x10_1).f0))).setCell ⟨gb115, 1, none⟩ (.int .i64 ((rd_T35 l0 x10_1).f1))).setCell ⟨gb115, 2, none⟩ (.int .i64 ((rd_T35 l0 x10_1).f2))).setCell ⟨gb115, 3, none⟩ (.int .i64 ((rd_T35 l0 x10_1).f3)))).cell? _ = some _ from hx117_3)); clear hn117_0; clear hn117_1; clear hn117_2; clear hn117_3; replace p117 := eq_true p117; replace q117 := eq_true q117)); try go_wp2_with (first | ((with_reducible refine gate_dst (N := 7) rfl ?_); (try (refine gate_guard (by rfl) ?_; dsimp only)); refine box_event ?hg (N := 7) ?hd (cs := #[.string (⟨#[]⟩ : ByteArray), .int .i64 0, .int .i64 0, .int .i64 0]) (t := 35) ?hr ?_; (case hd => rfl); (case hg => rfl); (case hr => exact gs_); intro gb115 hg w16 hbox hb; have n0_ := Aside0.mk (below_step hb_ hb); have n1_ := Aside0.mk (hbox); have n2_ := Aside0.mk ((by rw [hg]; exact (below_size hb_) : w.heap.size ≤ gb115)); have n3_ := n2_; clear HB; have HB := n0_; have BK115 := n1_; have GW115 := n2_; have GE115 := n3_; clear n0_ n1_ n2_ n3_; clear hb hbox hg; obtain ⟨hcz17_0, hcz17_1, hcz17_2, hcz17_3, hfz17_0, hfz17_1, hfz17_2, hfz17_3⟩ := bx4 BK115) | (go_at_call 99; (with_reducible refine (crossbarref08_Begins.calls a1 ((rd_T35 l0 x10_1).f0) true _ A6.out).mono ?_); rintro e w' ⟨rfl, ⟨nd, rfl⟩⟩; (try first | exact ⟨rfl, _, World.drewN_drewN _ _ _⟩ | exact ⟨rfl, _, Eq.trans (World.drewN_drewN _ _ _) (congrArg (World.drewN _) (Nat.add_assoc _ _ _))⟩); have p117 : 0 ≤ (x5_1 : Int) := dt_; have q117 : x5_1 < (l0.length : Int) := dt_; obtain ⟨ad117, e117, hx117_0, hx117_1, hx117_2, hx117_3⟩ := at_T35 HR0.out x5_1 p117 q117; obtain rfl : ad114 = ad117 := (by injection e117); have hn117_0 : ad114.block ≠ gb115 := Nat.ne_of_lt (Nat.lt_of_lt_of_le (by have := World.block_lt_of_cell? _ _ hx117_0; first | rwa [add_block] at this | exact this) GW115.out); have hn117_1 : ad114.block ≠ gb115 := Nat.ne_of_lt (Nat.lt_of_lt_of_le (by have := World.block_lt_of_cell? _ _ hx117_0; first | rwa [add_block] at this | exact this) GW115.out); have hn117_2 : ad114.block ≠ gb115 := Nat.ne_of_lt (Nat.lt_of_lt_of_le (by have := World.block_lt_of_cell? _ _ hx117_0; first | rwa [add_block] at this | exact this) GW115.out); have hn117_3 : ad114.block ≠ gb115 := Nat.ne_of_lt (Nat.lt_of_lt_of_le (by have := World.block_lt_of_cell? _ _ hx117_0; first | rwa [add_block] at this | exact this) GW115.out); replace hx117_0 := hc_ HB hx117_0; replace hx117_1 := hc_ HB hx117_1; replace hx117_2 := hc_ HB hx117_2; replace hx117_3 := hc_ HB hx117_3; replace hx117_0 := (cell_far (p := ⟨gb115, 0, none⟩) fa_ (.string ((rd_T35 l0 x10_1).f0))).trans hx117_0; replace hx117_1 := (cell_far (p := ⟨gb115, 0, none⟩) fa_ (.string ((rd_T35 l0 x10_1).f0))).trans hx117_1; replace hx117_2 := (cell_far (p := ⟨gb115, 0, none⟩) fa_ (.string ((rd_T35 l0 x10_1).f0))).trans hx117_2; replace hx117_3 := (cell_far (p := ⟨gb115, 0, none⟩) fa_ (.string ((rd_T35 l0 x10_1).f0))).trans hx117_3; replace hx117_0 := (cell_far (p := ⟨gb115, 1, none⟩) fa_ (.int .i64 ((rd_T35 l0 x10_1).f1))).trans hx117_0; replace hx117_1 := (cell_far (p := ⟨gb115, 1, none⟩) fa_ (.int .i64 ((rd_T35 l0 x10_1).f1))).trans hx117_1; replace hx117_2 := (cell_far (p := ⟨gb115, 1, none⟩) fa_ (.int .i64 ((rd_T35 l0 x10_1).f1))).trans hx117_2; replace hx117_3 := (cell_far (p := ⟨gb115, 1, none⟩) fa_ (.int .i64 ((rd_T35 l0 x10_1).f1))).trans hx117_3; replace hx117_0 := (cell_far (p := ⟨gb115, 2, none⟩) fa_ (.int .i64 ((rd_T35 l0 x10_1).f2))).trans hx117_0; replace hx117_1 := (cell_far (p := ⟨gb115, 2, none⟩) fa_ (.int .i64 ((rd_T35 l0 x10_1).f2))).trans hx117_1; replace hx117_2 := (cell_far (p := ⟨gb115, 2, none⟩) fa_ (.int .i64 ((rd_T35 l0 x10_1).f2))).trans hx117_2; replace hx117_3 := (cell_far (p := ⟨gb115, 2, none⟩) fa_ (.int .i64 ((rd_T35 l0 x10_1).f2))).trans hx117_3; replace hx117_0 := (cell_far (p := ⟨gb115, 3, none⟩) fa_ (.int .i64 ((rd_T35 l0 x10_1).f3))).trans hx117_0; replace hx117_1 := (cell_far (p := ⟨gb115, 3, none⟩) fa_ (.int .i64 ((rd_T35 l0 x10_1).f3))).trans hx117_1; replace hx117_2 := (cell_far (p := ⟨gb115, 3, none⟩) fa_ (.int .i64 ((rd_T35 l0 x10_1).f3))).trans hx117_2; replace hx117_3 := (cell_far (p := ⟨gb115, 3, none⟩) fa_ (.int .i64 ((rd_T35 l0 x10_1).f3))).trans hx117_3; (try have hy117_0 := fun (n_ : Nat) => (show ((((((w16.drewN n_).setCell ⟨gb115, 0, none⟩ (.string ((rd_T35 l0 x10_1).f0))).setCell ⟨gb115, 1, none⟩ (.int .i64 ((rd_T35 l0 x10_1).f1))).setCell ⟨gb115, 2, none⟩ (.int .i64 ((rd_T35 l0 x10_1).f2))).setCell ⟨gb115, 3, none⟩ (.int .i64 ((rd_T35 l0 x10_1).f3)))).cell? _ = some _ from hx117_0)); (try have hy117_1 := fun (n_ : Nat) => (show ((((((w16.drewN n_).setCell ⟨gb115, 0, none⟩ (.string ((rd_T35 l0 x10_1).f0))).setCell ⟨gb115, 1, none⟩ (.int .i64 ((rd_T35 l0 x10_1).f1))).setCell ⟨gb115, 2, none⟩ (.int .i64 ((rd_T35 l0 x10_1).f2))).setCell ⟨gb115, 3, none⟩ (.int .i64 ((rd_T35 l0 x10_1).f3)))).cell? _ = some _ from hx117_1)); (try have hy117_2 := fun (n_ : Nat) => (show ((((((w16.drewN n_).setCell ⟨gb115, 0, none⟩ (.string ((rd_T35 l0 x10_1).f0))).setCell ⟨gb115, 1, none⟩ (.int .i64 ((rd_T35 l0 x10_1).f1))).setCell ⟨gb115, 2, none⟩ (.int .i64 ((rd_T35 l0 x10_1).f2))).setCell ⟨gb115, 3, none⟩ (.int .i64 ((rd_T35 l0 x10_1).f3)))).cell? _ = some _ from hx117_2)); (try have hy117_3 := fun (n_ : Nat) => (show ((((((w16.drewN n_).setCell ⟨gb115, 0, none⟩ (.string ((rd_T35 l0 x10_1).f0))).setCell ⟨gb115, 1, none⟩ (.int .i64 ((rd_T35 l0 x10_1).f1))).setCell ⟨gb115, 2, none⟩ (.int .i64 ((rd_T35 l0 x10_1).f2))).setCell ⟨gb115, 3, none⟩ (.int .i64 ((rd_T35 l0 x10_1).f3)))).cell? _ = some _ from hx117_3)); clear hn117_0; clear hn117_1; clear hn117_2; clear hn117_3; replace p117 := eq_true p117; replace q117 := eq_true q117)))
                      go_roundg k1
                      case measure => have := HK1.out; omega
                      case rel => exact ⟨(x5_1), (wrap64 (x10_1 + 1)), rf_, rf_, H', ⟨by have := HK1.out; omega⟩, ⟨hb_⟩⟩
                  · rw [if_neg c12] at H
                    exact absurd H (by simp)
                · rw [if_neg c11] at H
                  exact absurd H (by simp)
            · replace c7 := Bool.eq_false_iff.mpr c7
              subst c7
              rw [if_neg (show ¬ (false = true) by decide)] at H
              have H' := Aside0.mk H
              clear H
              have p114 : 0 ≤ (x10_1 : Int) := dt_
              have q114 : x10_1 < (l0.length : Int) := dt_
              obtain ⟨ad114, e114, hx114_0, hx114_1, hx114_2, hx114_3⟩ := at_T35 HR0.out x10_1 p114 q114
              cases e114
              replace hx114_0 := hc_ HB hx114_0
              replace hx114_1 := hc_ HB hx114_1
              replace hx114_2 := hc_ HB hx114_2
              replace hx114_3 := hc_ HB hx114_3
              replace p114 := eq_true p114
              replace q114 := eq_true q114
              go_wp2_with (first | ((with_reducible refine gate_dst (N := 7) rfl ?_); (try (refine gate_guard (by rfl) ?_; dsimp only)); refine box_event ?hg (N := 7) ?hd (cs := #[.string (⟨#[]⟩ : ByteArray), .int .i64 0, .int .i64 0, .int .i64 0]) (t := 35) ?hr ?_; (case hd => rfl); (case hg => rfl); (case hr => exact gs_); intro gb115 hg w18 hbox hb; have n0_ := Aside0.mk (below_step hb_ hb); have n1_ := Aside0.mk (hbox); have n2_ := Aside0.mk ((by rw [hg]; exact (below_size hb_) : w.heap.size ≤ gb115)); have n3_ := n2_; clear HB; have HB := n0_; have BK115 := n1_; have GW115 := n2_; have GE115 := n3_; clear n0_ n1_ n2_ n3_; clear hb hbox hg; obtain ⟨hcz19_0, hcz19_1, hcz19_2, hcz19_3, hfz19_0, hfz19_1, hfz19_2, hfz19_3⟩ := bx4 BK115) | (go_at_call 99; (with_reducible refine (crossbarref08_Begins.calls a1 ((rd_T35 l0 x10_1).f0) false _ A6.out).mono ?_); rintro e w' ⟨rfl, ⟨nd, rfl⟩⟩; (try first | exact ⟨rfl, _, World.drewN_drewN _ _ _⟩ | exact ⟨rfl, _, Eq.trans (World.drewN_drewN _ _ _) (congrArg (World.drewN _) (Nat.add_assoc _ _ _))⟩)))
              repeat (go_quiet (first | ((with_reducible refine gate_dst (N := 7) rfl ?_); (try (refine gate_guard (by rfl) ?_; dsimp only)); refine box_event ?hg (N := 7) ?hd (cs := #[.string (⟨#[]⟩ : ByteArray), .int .i64 0, .int .i64 0, .int .i64 0]) (t := 35) ?hr ?_; (case hd => rfl); (case hg => rfl); (case hr => exact gs_); intro gb115 hg w18 hbox hb; have n0_ := Aside0.mk (below_step hb_ hb); have n1_ := Aside0.mk (hbox); have n2_ := Aside0.mk ((by rw [hg]; exact (below_size hb_) : w.heap.size ≤ gb115)); have n3_ := n2_; clear HB; have HB := n0_; have BK115 := n1_; have GW115 := n2_; have GE115 := n3_; clear n0_ n1_ n2_ n3_; clear hb hbox hg; obtain ⟨hcz19_0, hcz19_1, hcz19_2, hcz19_3, hfz19_0, hfz19_1, hfz19_2, hfz19_3⟩ := bx4 BK115) | (go_at_call 99; (with_reducible refine (crossbarref08_Begins.calls a1 ((rd_T35 l0 x10_1).f0) false _ A6.out).mono ?_); rintro e w' ⟨rfl, ⟨nd, rfl⟩⟩; (try first | exact ⟨rfl, _, World.drewN_drewN _ _ _⟩ | exact ⟨rfl, _, Eq.trans (World.drewN_drewN _ _ _) (congrArg (World.drewN _) (Nat.add_assoc _ _ _))⟩))); try go_wp2_with (first | ((with_reducible refine gate_dst (N := 7) rfl ?_); (try (refine gate_guard (by rfl) ?_; dsimp only)); refine box_event ?hg (N := 7) ?hd (cs := #[.string (⟨#[]⟩ : ByteArray), .int .i64 0, .int .i64 0, .int .i64 0]) (t := 35) ?hr ?_; (case hd => rfl); (case hg => rfl); (case hr => exact gs_); intro gb115 hg w18 hbox hb; have n0_ := Aside0.mk (below_step hb_ hb); have n1_ := Aside0.mk (hbox); have n2_ := Aside0.mk ((by rw [hg]; exact (below_size hb_) : w.heap.size ≤ gb115)); have n3_ := n2_; clear HB; have HB := n0_; have BK115 := n1_; have GW115 := n2_; have GE115 := n3_; clear n0_ n1_ n2_ n3_; clear hb hbox hg; obtain ⟨hcz19_0, hcz19_1, hcz19_2, hcz19_3, hfz19_0, hfz19_1, hfz19_2, hfz19_3⟩ := bx4 BK115) | (go_at_call 99; (with_reducible refine (crossbarref08_Begins.calls a1 ((rd_T35 l0 x10_1).f0) false _ A6.out).mono ?_); rintro e w' ⟨rfl, ⟨nd, rfl⟩⟩; (try first | exact ⟨rfl, _, World.drewN_drewN _ _ _⟩ | exact ⟨rfl, _, Eq.trans (World.drewN_drewN _ _ _) (congrArg (World.drewN _) (Nat.add_assoc _ _ _))⟩))))
              go_roundg k1
              case measure => have := HK1.out; omega
              case rel => exact ⟨(x5_1), (wrap64 (x10_1 + 1)), rf_, rf_, H', ⟨by have := HK1.out; omega⟩, ⟨hb_⟩⟩
          · rw [if_neg c5] at H
            exact absurd H (by simp)
        · rw [if_neg c4] at H
          exact absurd H (by simp)
      · rw [if_neg c3] at H
        have c3b0 : decide (x10_1 < (l0.length : Int)) = false := decide_eq_false c3
        clear c3
        obtain rfl := Option.some.inj H
        go_wp2
        repeat (go_quiet (fail); try go_wp2)
        go_ret
        exact ⟨er_, hb_⟩

/-! ### crossbarref08_extensible: function 100 -/
def crossbarref08_extensible.l0 : Nat → ByteArray → List (S35) → Int → Int → Option (Bool)
  | 0, _, _, _, _ => none
  | k + 1, x1, x7, x8, x9 => if x9 < x8 then (if 0 ≤ x9 then (if x9 < (x7.length : Int) then ((crossbarref08_Begins.f ((rd_T35 x7 x9).f0) x1).bind fun t120 => (if t120 = true then (if (((rd_T35 x7 x9).f0).size : Int) > (x1.size : Int) then (some true) else (crossbarref08_extensible.l0 k x1 x7 x8 (wrap64 (x9 + 1)))) else (crossbarref08_extensible.l0 k x1 x7 x8 (wrap64 (x9 + 1))))) else (none)) else (none)) else (some false)
def crossbarref08_extensible.f (k : Nat) (l0 : List (S35)) (a1 : ByteArray) : Option (Bool) := crossbarref08_extensible.l0 k a1 l0 (l0.length : Int) 0
theorem crossbarref08_extensible.mono_l : ∀ k, (∀ y0 y1 y2 y3, LeO (crossbarref08_extensible.l0 k y0 y1 y2 y3) (crossbarref08_extensible.l0 (k + 1) y0 y1 y2 y3))
  | 0 => fun _ _ _ _ r h => by simp [crossbarref08_extensible.l0] at h
  | k + 1 => by
    have ih0 := crossbarref08_extensible.mono_l k
    · intro y0 y1 y2 y3
      unfold crossbarref08_extensible.l0
      repeat' first
      | (with_reducible exact ih0 _ _ _ _)
      | (with_reducible exact LeO.refl _)
      | (with_reducible exact LeO.none _)
      | (with_reducible refine LeO.ite ?_ ?_)
      | (with_reducible refine LeO.bind ?_ (fun _ => ?_))
      | exact ih0 _ _ _ _
      | exact LeO.none _
      | refine LeO.ite ?_ ?_
      | refine LeO.bind ?_ (fun _ => ?_)
theorem crossbarref08_extensible.mono : ∀ a0 a1 k, LeO (crossbarref08_extensible.f k a0 a1) (crossbarref08_extensible.f (k + 1) a0 a1) := by
  intro a0 a1 k
  have ih0 := crossbarref08_extensible.mono_l k
  unfold crossbarref08_extensible.f
  repeat' first
      | (with_reducible exact ih0 _ _ _ _)
      | (with_reducible exact LeO.refl _)
      | (with_reducible exact LeO.none _)
      | (with_reducible refine LeO.ite ?_ ?_)
      | (with_reducible refine LeO.bind ?_ (fun _ => ?_))
      | exact ih0 _ _ _ _
      | exact LeO.none _
      | refine LeO.ite ?_ ?_
      | refine LeO.bind ?_ (fun _ => ?_)
set_option maxHeartbeats 8000000 in
set_option maxRecDepth 100000 in
theorem crossbarref08_extensible.calls (k : Nat) (A0 : Option Addr) (c0 : Nat) (l0 : List (S35)) (a1 : ByteArray) (r : Bool) (w : World) (hr0 : Kd.C k35 w A0 l0.length l0) (hc0 : l0.length ≤ c0) (h : crossbarref08_extensible.f k l0 a1 = some r) :
    Calls Tryd.prog 100 #[.slice A0 l0.length c0, .string a1] w fun e w' => e = .returned (.bool r) ∧ Below w.heap.size w w' := by
  have hu35 := Tryd.underlying35
  have HR0 := Aside0.mk hr0
  have HC0 := Aside0.mk hc0
  clear hr0 hc0
  have HB := Aside0.mk (Below.refl w.heap.size w)
  have H : (crossbarref08_extensible.l0 k a1 l0 (l0.length : Int) 0) = some r := h
  clear h
  have H' := Aside0.mk H
  clear H
  go_enter Tryd.func100, Tryd.ntmps100
  go_wp2
  go_loopg [9] k (fun kq v9 w' => ∃ (x9_1 : Int), v9 = .int .i64 x9_1 ∧ Aside0 (crossbarref08_extensible.l0 kq a1 l0 (l0.length : Int) x9_1 = some r) ∧ Aside0 (kq ≤ k) ∧ Aside0 (Below w.heap.size w w'))
  case atStart => exact ⟨(0), rf_, H', ⟨Nat.le_refl _⟩, ⟨hb_⟩⟩
  case round =>
    clear H'
    try clear c1
    try clear p2
    obtain ⟨x9_1, rfl, HA, HK1, HB⟩ := hrel
    cases gk with
    | zero => exact absurd HA.out (by simp [crossbarref08_extensible.l0])
    | succ k1 =>
      have H := HA.out
      clear HA
      simp only [crossbarref08_extensible.l0] at H
      by_cases c3 : x9_1 < (l0.length : Int)
      · rw [if_pos c3] at H
        have c3b0 : decide (x9_1 < (l0.length : Int)) = true := decide_eq_true c3
        clear c3
        by_cases c4 : 0 ≤ x9_1
        · rw [if_pos c4] at H
          have c4b0 : decide (0 ≤ x9_1) = true := decide_eq_true c4
          clear c4
          by_cases c5 : x9_1 < (l0.length : Int)
          · rw [if_pos c5] at H
            have c5b0 : decide (x9_1 < (l0.length : Int)) = true := decide_eq_true c5
            clear c5
            replace H := Option.bind_eq_some_iff.mp H
            obtain ⟨t120, A60, H⟩ := H
            try dsimp only at H
            have A6 := Aside0.mk A60
            clear A60
            by_cases c7 : t120 = true
            · subst c7
              rw [if_pos rfl] at H
              by_cases c8 : (((rd_T35 l0 x9_1).f0).size : Int) > (a1.size : Int)
              · rw [if_pos c8] at H
                have c8b0 : decide ((a1.size : Int) < (((rd_T35 l0 x9_1).f0).size : Int)) = true := decide_eq_true c8
                have c8b1 : decide (a1.size < ((rd_T35 l0 x9_1).f0).size) = true := decide_eq_true (Int.ofNat_lt.mp c8)
                clear c8
                obtain rfl := Option.some.inj H
                have p118 : 0 ≤ (x9_1 : Int) := dt_
                have q118 : x9_1 < (l0.length : Int) := dt_
                obtain ⟨ad118, e118, hx118_0, hx118_1, hx118_2, hx118_3⟩ := at_T35 HR0.out x9_1 p118 q118
                cases e118
                replace hx118_0 := hc_ HB hx118_0
                replace hx118_1 := hc_ HB hx118_1
                replace hx118_2 := hc_ HB hx118_2
                replace hx118_3 := hc_ HB hx118_3
                replace p118 := eq_true p118
                replace q118 := eq_true q118
                go_wp2_with (first | ((with_reducible refine gate_dst (N := 6) rfl ?_); (try (refine gate_guard (by rfl) ?_; dsimp only)); refine box_event ?hg (N := 6) ?hd (cs := #[.string (⟨#[]⟩ : ByteArray), .int .i64 0, .int .i64 0, .int .i64 0]) (t := 35) ?hr ?_; (case hd => rfl); (case hg => rfl); (case hr => exact gs_); intro gb119 hg w9 hbox hb; have n0_ := Aside0.mk (below_step hb_ hb); have n1_ := Aside0.mk (hbox); have n2_ := Aside0.mk ((by rw [hg]; exact (below_size hb_) : w.heap.size ≤ gb119)); have n3_ := n2_; clear HB; have HB := n0_; have BK119 := n1_; have GW119 := n2_; have GE119 := n3_; clear n0_ n1_ n2_ n3_; clear hb hbox hg; obtain ⟨hcz10_0, hcz10_1, hcz10_2, hcz10_3, hfz10_0, hfz10_1, hfz10_2, hfz10_3⟩ := bx4 BK119) | ((with_reducible refine gate_callee (f := 99) rfl ?_); refine goesL_ (some 16) rfl rfl Tryd.func99 (by kernel_rfl) rfl #[.string ((rd_T35 l0 x9_1).f0), .string a1] rfl ls_ ?_; (with_reducible refine (crossbarref08_Begins.calls ((rd_T35 l0 x9_1).f0) a1 true _ A6.out).mono ?_); rintro e w' ⟨rfl, ⟨nd, rfl⟩⟩; refine ⟨_, rfl, ?_⟩))
                go_ret
                exact ⟨er_, hb_⟩
              · rw [if_neg c8] at H
                have c8b0 : decide ((a1.size : Int) < (((rd_T35 l0 x9_1).f0).size : Int)) = false := decide_eq_false c8
                have c8b1 : decide (a1.size < ((rd_T35 l0 x9_1).f0).size) = false := decide_eq_false (fun h => c8 (Int.ofNat_lt.mpr h))
                clear c8
                have H' := Aside0.mk H
                clear H
                have p118 : 0 ≤ (x9_1 : Int) := dt_
                have q118 : x9_1 < (l0.length : Int) := dt_
                obtain ⟨ad118, e118, hx118_0, hx118_1, hx118_2, hx118_3⟩ := at_T35 HR0.out x9_1 p118 q118
                cases e118
                replace hx118_0 := hc_ HB hx118_0
                replace hx118_1 := hc_ HB hx118_1
                replace hx118_2 := hc_ HB hx118_2
                replace hx118_3 := hc_ HB hx118_3
                replace p118 := eq_true p118
                replace q118 := eq_true q118
                go_wp2_with (first | ((with_reducible refine gate_dst (N := 6) rfl ?_); (try (refine gate_guard (by rfl) ?_; dsimp only)); refine box_event ?hg (N := 6) ?hd (cs := #[.string (⟨#[]⟩ : ByteArray), .int .i64 0, .int .i64 0, .int .i64 0]) (t := 35) ?hr ?_; (case hd => rfl); (case hg => rfl); (case hr => exact gs_); intro gb119 hg w11 hbox hb; have n0_ := Aside0.mk (below_step hb_ hb); have n1_ := Aside0.mk (hbox); have n2_ := Aside0.mk ((by rw [hg]; exact (below_size hb_) : w.heap.size ≤ gb119)); have n3_ := n2_; clear HB; have HB := n0_; have BK119 := n1_; have GW119 := n2_; have GE119 := n3_; clear n0_ n1_ n2_ n3_; clear hb hbox hg; obtain ⟨hcz12_0, hcz12_1, hcz12_2, hcz12_3, hfz12_0, hfz12_1, hfz12_2, hfz12_3⟩ := bx4 BK119) | ((with_reducible refine gate_callee (f := 99) rfl ?_); refine goesL_ (some 16) rfl rfl Tryd.func99 (by kernel_rfl) rfl #[.string ((rd_T35 l0 x9_1).f0), .string a1] rfl ls_ ?_; (with_reducible refine (crossbarref08_Begins.calls ((rd_T35 l0 x9_1).f0) a1 true _ A6.out).mono ?_); rintro e w' ⟨rfl, ⟨nd, rfl⟩⟩; refine ⟨_, rfl, ?_⟩))
                go_roundg k1
                case measure => have := HK1.out; omega
                case rel => exact ⟨(wrap64 (x9_1 + 1)), rf_, H', ⟨by have := HK1.out; omega⟩, ⟨hb_⟩⟩
            · replace c7 := Bool.eq_false_iff.mpr c7
              subst c7
              rw [if_neg (show ¬ (false = true) by decide)] at H
              have H' := Aside0.mk H
              clear H
              have p118 : 0 ≤ (x9_1 : Int) := dt_
              have q118 : x9_1 < (l0.length : Int) := dt_
              obtain ⟨ad118, e118, hx118_0, hx118_1, hx118_2, hx118_3⟩ := at_T35 HR0.out x9_1 p118 q118
              cases e118
              replace hx118_0 := hc_ HB hx118_0
              replace hx118_1 := hc_ HB hx118_1
              replace hx118_2 := hc_ HB hx118_2
              replace hx118_3 := hc_ HB hx118_3
              replace p118 := eq_true p118
              replace q118 := eq_true q118
              go_wp2_with (first | ((with_reducible refine gate_dst (N := 6) rfl ?_); (try (refine gate_guard (by rfl) ?_; dsimp only)); refine box_event ?hg (N := 6) ?hd (cs := #[.string (⟨#[]⟩ : ByteArray), .int .i64 0, .int .i64 0, .int .i64 0]) (t := 35) ?hr ?_; (case hd => rfl); (case hg => rfl); (case hr => exact gs_); intro gb119 hg w13 hbox hb; have n0_ := Aside0.mk (below_step hb_ hb); have n1_ := Aside0.mk (hbox); have n2_ := Aside0.mk ((by rw [hg]; exact (below_size hb_) : w.heap.size ≤ gb119)); have n3_ := n2_; clear HB; have HB := n0_; have BK119 := n1_; have GW119 := n2_; have GE119 := n3_; clear n0_ n1_ n2_ n3_; clear hb hbox hg; obtain ⟨hcz14_0, hcz14_1, hcz14_2, hcz14_3, hfz14_0, hfz14_1, hfz14_2, hfz14_3⟩ := bx4 BK119) | ((with_reducible refine gate_callee (f := 99) rfl ?_); refine goesL_ (some 16) rfl rfl Tryd.func99 (by kernel_rfl) rfl #[.string ((rd_T35 l0 x9_1).f0), .string a1] rfl ls_ ?_; (with_reducible refine (crossbarref08_Begins.calls ((rd_T35 l0 x9_1).f0) a1 false _ A6.out).mono ?_); rintro e w' ⟨rfl, ⟨nd, rfl⟩⟩; refine ⟨_, rfl, ?_⟩))
              go_roundg k1
              case measure => have := HK1.out; omega
              case rel => exact ⟨(wrap64 (x9_1 + 1)), rf_, H', ⟨by have := HK1.out; omega⟩, ⟨hb_⟩⟩
          · rw [if_neg c5] at H
            exact absurd H (by simp)
        · rw [if_neg c4] at H
          exact absurd H (by simp)
      · rw [if_neg c3] at H
        have c3b0 : decide (x9_1 < (l0.length : Int)) = false := decide_eq_false c3
        clear c3
        obtain rfl := Option.some.inj H
        go_wp2
        go_ret
        exact ⟨er_, hb_⟩

end Go.Proofs.YthknfclhkmehgaaDoor.Fn
