-- printed by a program of this session, out of the translation; Lean checks it
import Derived.Test.YtmendieiikmbhaaDoorFn0
namespace Go.Proofs.YtmendieiikmbhaaDoor.Fn
open Go.RowKit Go.Proofs.YtmendieiikmbhaaDoorW.PrintWords Go.Proofs.YtmendieiikmbhaaDoorW.PrintLast Go.Proofs.YtmendieiikmbhaaDoorW.PrintMore
attribute [local go_sem] max2_int min2_int max_two min_two max_three min_three max_four min_four   -- for this text's walks alone
set_option linter.unusedVariables false
set_option linter.unusedSimpArgs false

/-! ### crossbarref07_valid: function 56 -/
mutual
def crossbarref07_valid.l0 : Nat → Int → List Int → List Int → Int → List (S71) → Option (Bool)
  | 0, _, _, _, _, _ => none
  | k + 1, x3, x4, x5, x6, x103000 => if x6 < x3 then (if 0 ≤ x6 then (if x6 < (x103000.length : Int) then (if ((rd_T71 x103000 x6).f1) < 0 then (crossbarref07_valid.j1 k x3 x4 x5 x6 true x103000) else (crossbarref07_valid.j1 k x3 x4 x5 x6 (decide (((rd_T71 x103000 x6).f1) > 1099511627776)) x103000)) else (none)) else (none)) else (crossbarref07_valid.l2 k x3 x4 x5 1)
def crossbarref07_valid.j1 : Nat → Int → List Int → List Int → Int → Bool → List (S71) → Option (Bool)
  | 0, _, _, _, _, _, _ => none
  | k + 1, x3, x4, x5, x6, x39, x103000 => if x39 = true then (some false) else (crossbarref07_valid.l1 k x3 x4 x5 x6 0 x103000)
def crossbarref07_valid.l1 : Nat → Int → List Int → List Int → Int → Int → List (S71) → Option (Bool)
  | 0, _, _, _, _, _, _ => none
  | k + 1, x3, x4, x5, x6, x7, x103000 => if x7 < 10 then (if 0 ≤ x6 then (if x6 < (x103000.length : Int) then (if 0 ≤ x7 then (if (at69 (⟨(rd_T71 x103000 x6).f0.f0, (rd_T71 x103000 x6).f0.f1, (rd_T71 x103000 x6).f0.f2, (rd_T71 x103000 x6).f0.f3, (rd_T71 x103000 x6).f0.f4, (rd_T71 x103000 x6).f0.f5, (rd_T71 x103000 x6).f0.f6, (rd_T71 x103000 x6).f0.f7, (rd_T71 x103000 x6).f0.f8, (rd_T71 x103000 x6).f0.f9⟩ : S69) x7) = 0 then (crossbarref07_valid.l1 k x3 x4 x5 x6 (wrap64 (x7 + 1)) x103000) else (if (at69 (⟨(rd_T71 x103000 x6).f0.f0, (rd_T71 x103000 x6).f0.f1, (rd_T71 x103000 x6).f0.f2, (rd_T71 x103000 x6).f0.f3, (rd_T71 x103000 x6).f0.f4, (rd_T71 x103000 x6).f0.f5, (rd_T71 x103000 x6).f0.f6, (rd_T71 x103000 x6).f0.f7, (rd_T71 x103000 x6).f0.f8, (rd_T71 x103000 x6).f0.f9⟩ : S69) x7) ≤ x6 then (some false) else (if (at69 (⟨(rd_T71 x103000 x6).f0.f0, (rd_T71 x103000 x6).f0.f1, (rd_T71 x103000 x6).f0.f2, (rd_T71 x103000 x6).f0.f3, (rd_T71 x103000 x6).f0.f4, (rd_T71 x103000 x6).f0.f5, (rd_T71 x103000 x6).f0.f6, (rd_T71 x103000 x6).f0.f7, (rd_T71 x103000 x6).f0.f8, (rd_T71 x103000 x6).f0.f9⟩ : S69) x7) ≥ x3 then (some false) else (if 0 ≤ (at69 (⟨(rd_T71 x103000 x6).f0.f0, (rd_T71 x103000 x6).f0.f1, (rd_T71 x103000 x6).f0.f2, (rd_T71 x103000 x6).f0.f3, (rd_T71 x103000 x6).f0.f4, (rd_T71 x103000 x6).f0.f5, (rd_T71 x103000 x6).f0.f6, (rd_T71 x103000 x6).f0.f7, (rd_T71 x103000 x6).f0.f8, (rd_T71 x103000 x6).f0.f9⟩ : S69) x7) then (if (at69 (⟨(rd_T71 x103000 x6).f0.f0, (rd_T71 x103000 x6).f0.f1, (rd_T71 x103000 x6).f0.f2, (rd_T71 x103000 x6).f0.f3, (rd_T71 x103000 x6).f0.f4, (rd_T71 x103000 x6).f0.f5, (rd_T71 x103000 x6).f0.f6, (rd_T71 x103000 x6).f0.f7, (rd_T71 x103000 x6).f0.f8, (rd_T71 x103000 x6).f0.f9⟩ : S69) x7) < (x4.length : Int) then (if x6 < (x5.length : Int) then (if (at69 (⟨(rd_T71 x103000 x6).f0.f0, (rd_T71 x103000 x6).f0.f1, (rd_T71 x103000 x6).f0.f2, (rd_T71 x103000 x6).f0.f3, (rd_T71 x103000 x6).f0.f4, (rd_T71 x103000 x6).f0.f5, (rd_T71 x103000 x6).f0.f6, (rd_T71 x103000 x6).f0.f7, (rd_T71 x103000 x6).f0.f8, (rd_T71 x103000 x6).f0.f9⟩ : S69) x7) < (x5.length : Int) then (crossbarref07_valid.l1 k x3 (x4.set ((at69 (⟨(rd_T71 x103000 x6).f0.f0, (rd_T71 x103000 x6).f0.f1, (rd_T71 x103000 x6).f0.f2, (rd_T71 x103000 x6).f0.f3, (rd_T71 x103000 x6).f0.f4, (rd_T71 x103000 x6).f0.f5, (rd_T71 x103000 x6).f0.f6, (rd_T71 x103000 x6).f0.f7, (rd_T71 x103000 x6).f0.f8, (rd_T71 x103000 x6).f0.f9⟩ : S69) x7) : Int).toNat (wrap64 ((rd x4 (at69 (⟨(rd_T71 x103000 x6).f0.f0, (rd_T71 x103000 x6).f0.f1, (rd_T71 x103000 x6).f0.f2, (rd_T71 x103000 x6).f0.f3, (rd_T71 x103000 x6).f0.f4, (rd_T71 x103000 x6).f0.f5, (rd_T71 x103000 x6).f0.f6, (rd_T71 x103000 x6).f0.f7, (rd_T71 x103000 x6).f0.f8, (rd_T71 x103000 x6).f0.f9⟩ : S69) x7)) + 1))) (x5.set ((at69 (⟨(rd_T71 x103000 x6).f0.f0, (rd_T71 x103000 x6).f0.f1, (rd_T71 x103000 x6).f0.f2, (rd_T71 x103000 x6).f0.f3, (rd_T71 x103000 x6).f0.f4, (rd_T71 x103000 x6).f0.f5, (rd_T71 x103000 x6).f0.f6, (rd_T71 x103000 x6).f0.f7, (rd_T71 x103000 x6).f0.f8, (rd_T71 x103000 x6).f0.f9⟩ : S69) x7) : Int).toNat (wrap64 ((rd x5 x6) + 1))) x6 (wrap64 (x7 + 1)) x103000) else (none)) else (none)) else (none)) else (none))))) else (none)) else (none)) else (none)) else (crossbarref07_valid.l0 k x3 x4 x5 (wrap64 (x6 + 1)) x103000)
def crossbarref07_valid.l2 : Nat → Int → List Int → List Int → Int → Option (Bool)
  | 0, _, _, _, _ => none
  | k + 1, x3, x4, x5, x9 => if x9 < x3 then (if 0 ≤ x9 then (if x9 < (x4.length : Int) then (if (rd x4 x9) = 1 then (if x9 < (x5.length : Int) then (if (rd x5 x9) > 15 then (some false) else (crossbarref07_valid.l2 k x3 x4 x5 (wrap64 (x9 + 1)))) else (none)) else (some false)) else (none)) else (none)) else (some true)
end
def crossbarref07_valid.f (k : Nat) (l0_0 : List (S71)) : Option (Bool) := if (l0_0.length : Int) < 1 then (some false) else (if 0 ≤ (l0_0.length : Int) then (if ((l0_0.length : Int) : Int).toNat ≤ 35184372088832 then (crossbarref07_valid.l0 k (l0_0.length : Int) (List.replicate ((l0_0.length : Int) : Int).toNat 0) (List.replicate ((l0_0.length : Int) : Int).toNat 0) 0 l0_0) else (none)) else (none))
theorem crossbarref07_valid.mono_l : ∀ k, (∀ y0 y1 y2 y3 y4, LeO (crossbarref07_valid.l0 k y0 y1 y2 y3 y4) (crossbarref07_valid.l0 (k + 1) y0 y1 y2 y3 y4)) ∧ (∀ y0 y1 y2 y3 y4 y5, LeO (crossbarref07_valid.j1 k y0 y1 y2 y3 y4 y5) (crossbarref07_valid.j1 (k + 1) y0 y1 y2 y3 y4 y5)) ∧ (∀ y0 y1 y2 y3 y4 y5, LeO (crossbarref07_valid.l1 k y0 y1 y2 y3 y4 y5) (crossbarref07_valid.l1 (k + 1) y0 y1 y2 y3 y4 y5)) ∧ (∀ y0 y1 y2 y3, LeO (crossbarref07_valid.l2 k y0 y1 y2 y3) (crossbarref07_valid.l2 (k + 1) y0 y1 y2 y3))
  | 0 => ⟨fun _ _ _ _ _ r h => by simp [crossbarref07_valid.l0] at h, fun _ _ _ _ _ _ r h => by simp [crossbarref07_valid.j1] at h, fun _ _ _ _ _ _ r h => by simp [crossbarref07_valid.l1] at h, fun _ _ _ _ r h => by simp [crossbarref07_valid.l2] at h⟩
  | k + 1 => by
    obtain ⟨ih0, ih1, ih2, ih3⟩ := crossbarref07_valid.mono_l k
    refine ⟨?_, ?_, ?_, ?_⟩
    · intro y0 y1 y2 y3 y4
      unfold crossbarref07_valid.l0
      repeat' first
      | (with_reducible exact ih0 _ _ _ _ _)
      | (with_reducible exact ih1 _ _ _ _ _ _)
      | (with_reducible exact ih2 _ _ _ _ _ _)
      | (with_reducible exact ih3 _ _ _ _)
      | (with_reducible exact LeO.refl _)
      | (with_reducible exact LeO.none _)
      | (with_reducible refine LeO.ite ?_ ?_)
      | (with_reducible refine LeO.bind ?_ (fun _ => ?_))
      | exact ih0 _ _ _ _ _
      | exact ih1 _ _ _ _ _ _
      | exact ih2 _ _ _ _ _ _
      | exact ih3 _ _ _ _
      | exact LeO.none _
      | refine LeO.ite ?_ ?_
      | refine LeO.bind ?_ (fun _ => ?_)
    · intro y0 y1 y2 y3 y4 y5
      unfold crossbarref07_valid.j1
      repeat' first
      | (with_reducible exact ih0 _ _ _ _ _)
      | (with_reducible exact ih1 _ _ _ _ _ _)
      | (with_reducible exact ih2 _ _ _ _ _ _)
      | (with_reducible exact ih3 _ _ _ _)
      | (with_reducible exact LeO.refl _)
      | (with_reducible exact LeO.none _)
      | (with_reducible refine LeO.ite ?_ ?_)
      | (with_reducible refine LeO.bind ?_ (fun _ => ?_))
      | exact ih0 _ _ _ _ _
      | exact ih1 _ _ _ _ _ _
      | exact ih2 _ _ _ _ _ _
      | exact ih3 _ _ _ _
      | exact LeO.none _
      | refine LeO.ite ?_ ?_
      | refine LeO.bind ?_ (fun _ => ?_)
    · intro y0 y1 y2 y3 y4 y5
      unfold crossbarref07_valid.l1
      repeat' first
      | (with_reducible exact ih0 _ _ _ _ _)
      | (with_reducible exact ih1 _ _ _ _ _ _)
      | (with_reducible exact ih2 _ _ _ _ _ _)
      | (with_reducible exact ih3 _ _ _ _)
      | (with_reducible exact LeO.refl _)
      | (with_reducible exact LeO.none _)
      | (with_reducible refine LeO.ite ?_ ?_)
      | (with_reducible refine LeO.bind ?_ (fun _ => ?_))
      | exact ih0 _ _ _ _ _
      | exact ih1 _ _ _ _ _ _
      | exact ih2 _ _ _ _ _ _
      | exact ih3 _ _ _ _
      | exact LeO.none _
      | refine LeO.ite ?_ ?_
      | refine LeO.bind ?_ (fun _ => ?_)
    · intro y0 y1 y2 y3
      unfold crossbarref07_valid.l2
      repeat' first
      | (with_reducible exact ih0 _ _ _ _ _)
      | (with_reducible exact ih1 _ _ _ _ _ _)
      | (with_reducible exact ih2 _ _ _ _ _ _)
      | (with_reducible exact ih3 _ _ _ _)
      | (with_reducible exact LeO.refl _)
      | (with_reducible exact LeO.none _)
      | (with_reducible refine LeO.ite ?_ ?_)
      | (with_reducible refine LeO.bind ?_ (fun _ => ?_))
      | exact ih0 _ _ _ _ _
      | exact ih1 _ _ _ _ _ _
      | exact ih2 _ _ _ _ _ _
      | exact ih3 _ _ _ _
      | exact LeO.none _
      | refine LeO.ite ?_ ?_
      | refine LeO.bind ?_ (fun _ => ?_)
theorem crossbarref07_valid.mono : ∀ a0 k, LeO (crossbarref07_valid.f k a0) (crossbarref07_valid.f (k + 1) a0) := by
  intro a0 k
  obtain ⟨ih0, ih1, ih2, ih3⟩ := crossbarref07_valid.mono_l k
  unfold crossbarref07_valid.f
  repeat' first
      | (with_reducible exact ih0 _ _ _ _ _)
      | (with_reducible exact ih1 _ _ _ _ _ _)
      | (with_reducible exact ih2 _ _ _ _ _ _)
      | (with_reducible exact ih3 _ _ _ _)
      | (with_reducible exact LeO.refl _)
      | (with_reducible exact LeO.none _)
      | (with_reducible refine LeO.ite ?_ ?_)
      | (with_reducible refine LeO.bind ?_ (fun _ => ?_))
      | exact ih0 _ _ _ _ _
      | exact ih1 _ _ _ _ _ _
      | exact ih2 _ _ _ _ _ _
      | exact ih3 _ _ _ _
      | exact LeO.none _
      | refine LeO.ite ?_ ?_
      | refine LeO.bind ?_ (fun _ => ?_)
set_option maxHeartbeats 8000000 in
set_option maxRecDepth 100000 in
theorem crossbarref07_valid.calls (k : Nat) (A0_0 : Option Addr) (c0_0 : Nat) (l0_0 : List (S71)) (r : Bool) (w : World) (hr0_0 : Kd.C k71 w A0_0 l0_0.length l0_0) (hc0_0 : l0_0.length ≤ c0_0) (h : crossbarref07_valid.f k l0_0 = some r) :
    Calls Tryd.prog 56 #[.agg #[.slice A0_0 l0_0.length c0_0]] w fun e w' => e = .returned (.bool r) ∧ Below w.heap.size w w' := by
  have hu24 := Tryd.underlying24
  have HR0_0 := Aside0.mk hr0_0
  have HC0_0 := Aside0.mk hc0_0
  clear hr0_0 hc0_0
  have HB := Aside0.mk (Below.refl w.heap.size w)
  have H : (if (l0_0.length : Int) < 1 then (some false) else (if 0 ≤ (l0_0.length : Int) then (if ((l0_0.length : Int) : Int).toNat ≤ 35184372088832 then (crossbarref07_valid.l0 k (l0_0.length : Int) (List.replicate ((l0_0.length : Int) : Int).toNat 0) (List.replicate ((l0_0.length : Int) : Int).toNat 0) 0 l0_0) else (none)) else (none))) = some r := h
  clear h
  by_cases c2 : (l0_0.length : Int) < 1
  · rw [if_pos c2] at H
    have c2b0 : decide ((l0_0.length : Int) < 1) = true := decide_eq_true c2
    have c2b1 : decide (l0_0.length < 1) = true := decide_eq_true (by omega)
    clear c2
    obtain rfl := Option.some.inj H
    go_enter Tryd.func56, Tryd.ntmps56
    go_wp2_with (first | ((with_reducible refine gate_dst (N := 1) rfl ?_); refine box_event ?hg (N := 1) ?hd (cs := #[.slice A0_0 l0_0.length c0_0]) (t := 24) ?hr ?_; (case hd => rfl); (case hg => rfl); (case hr => first | (go_simp; done) | (go_simp; rfl)); intro gb102 hg w3 hbox hb; have n0_ := Aside0.mk (below_step (by repeat (first | (with_reducible first | exact HB.out | apply below_alloc | apply pw_below_drewN | apply below_drew1) | exact HB.out)) hb); have n1_ := Aside0.mk (hbox); have n2_ := Aside0.mk ((by rw [hg]; exact (below_size (by repeat (first | (with_reducible first | exact HB.out | apply below_alloc | apply pw_below_drewN | apply below_drew1) | exact HB.out))) : w.heap.size ≤ gb102)); have n3_ := Aside0.mk ((by rw [hg]; exact (below_size (by repeat (first | (with_reducible first | exact HB.out | apply below_alloc | apply pw_below_drewN | apply below_drew1) | exact HB.out))) : w.heap.size ≤ gb102)); clear HB; have HB := n0_; have BK102 := n1_; have GW102 := n2_; have GE102 := n3_; clear n0_ n1_ n2_ n3_; clear hb hbox hg; have hcz4_0 : w3.cell? ⟨gb102, 0, none⟩ = some (.slice A0_0 l0_0.length c0_0) := (blk_cell BK102.out 0).trans rfl; have hfz4_0 := blk_frozen BK102.out 0))
    go_ret
    exact ⟨by first | rfl | (simp [errW_none, errW_some] <;> rfl) | (simp [*, errW_none, errW_some] <;> rfl), by repeat (first | (with_reducible first | exact HB.out | apply below_alloc | apply pw_below_drewN | apply below_drew1 | refine below_set ?_ GE102.out) | exact HB.out)⟩
  · rw [if_neg c2] at H
    have c2b0 : decide ((l0_0.length : Int) < 1) = false := decide_eq_false c2
    have c2b1 : decide (l0_0.length < 1) = false := decide_eq_false (by omega)
    clear c2
    by_cases c5 : 0 ≤ (l0_0.length : Int)
    · rw [if_pos c5] at H
      have c5b0 := eq_true c5
      have c5b1 : decide (0 ≤ (l0_0.length : Int)) = true := decide_eq_true c5
      clear c5
      by_cases c6 : ((l0_0.length : Int) : Int).toNat ≤ 35184372088832
      · rw [if_pos c6] at H
        have c6b0 := eq_true c6
        have c6b1 : decide (((l0_0.length : Int) : Int).toNat ≤ 35184372088832) = true := decide_eq_true c6
        clear c6
        obtain ⟨y103, hy103⟩ : ∃ y_ : List Int, y_ = (List.replicate ((l0_0.length : Int) : Int).toNat 0) := ⟨_, rfl⟩
        replace H : (crossbarref07_valid.l0 k (l0_0.length : Int) y103 (List.replicate ((l0_0.length : Int) : Int).toNat 0) 0 l0_0) = some r := by first | (rw [hy103]; with_reducible exact H) | (have H2_ := (Option.bind_some _ _).symm.trans H; rw [hy103]; with_reducible exact H2_) | (have H2_ := (Option.bind_some _ _).symm.trans H; with_reducible exact H2_) | with_reducible exact H | (rw [hy103]; exact H) | exact H
        have Ny103 := Aside0.mk hy103
        clear hy103
        obtain ⟨y106, hy106⟩ : ∃ y_ : List Int, y_ = (List.replicate ((l0_0.length : Int) : Int).toNat 0) := ⟨_, rfl⟩
        replace H : (crossbarref07_valid.l0 k (l0_0.length : Int) y103 y106 0 l0_0) = some r := by first | (rw [hy106]; with_reducible exact H) | (have H2_ := (Option.bind_some _ _).symm.trans H; rw [hy106]; with_reducible exact H2_) | (have H2_ := (Option.bind_some _ _).symm.trans H; with_reducible exact H2_) | with_reducible exact H | (rw [hy106]; exact H) | exact H
        have Ny106 := Aside0.mk hy106
        clear hy106
        have H' := Aside0.mk H
        clear H
        go_enter Tryd.func56, Tryd.ntmps56
        go_wp2_with (first | ((with_reducible refine gate_dst (N := 1) rfl ?_); refine box_event ?hg (N := 1) ?hd (cs := #[.slice A0_0 l0_0.length c0_0]) (t := 24) ?hr ?_; (case hd => rfl); (case hg => rfl); (case hr => first | (go_simp; done) | (go_simp; rfl)); intro gb102 hg w7 hbox hb; have n0_ := Aside0.mk (below_step (by repeat (first | (with_reducible first | exact HB.out | apply below_alloc | apply pw_below_drewN | apply below_drew1) | exact HB.out)) hb); have n1_ := Aside0.mk (hbox); have n2_ := Aside0.mk ((by rw [hg]; exact (below_size (by repeat (first | (with_reducible first | exact HB.out | apply below_alloc | apply pw_below_drewN | apply below_drew1) | exact HB.out))) : w.heap.size ≤ gb102)); have n3_ := Aside0.mk ((by rw [hg]; exact (below_size (by repeat (first | (with_reducible first | exact HB.out | apply below_alloc | apply pw_below_drewN | apply below_drew1) | exact HB.out))) : w.heap.size ≤ gb102)); clear HB; have HB := n0_; have BK102 := n1_; have GW102 := n2_; have GE102 := n3_; clear n0_ n1_ n2_ n3_; clear hb hbox hg; have hcz8_0 : w7.cell? ⟨gb102, 0, none⟩ = some (.slice A0_0 l0_0.length c0_0) := (blk_cell BK102.out 0).trans rfl; have hfz8_0 := blk_frozen BK102.out 0) | ((with_reducible refine gate_dst (N := 16) rfl ?_); refine Kd.R_make (Kd.int .i64) _ 3 rfl (N := 16) rfl 79 _ _ rfl (l0_0.length : Int) rfl rfl Tryd.underlying79 (.int .i64 0) 8 info3 rfl (by decide) (by omega) 0 (ok := fun _ => True) (okp := fun _ => True) rfl (fun _ hk => hk) trivial (of_decide_eq_true (by first | (with_reducible assumption) | assumption)) (Nat.le_trans (Nat.mul_le_mul_right _ (of_decide_eq_true (by first | (with_reducible assumption) | assumption) : (l0_0.length : Int).toNat ≤ 35184372088832)) (by omega)) (Below.refl _ _) (Nat.le_refl _) ?_; intro v104 w9 ho10 hb hg_ hnew_; clear hg_ hnew_; (first | rw [← Ny103.out] at ho10 | (simp only [Int.reduceToNat] at ho10; rw [← Ny103.out] at ho10)); have n0_ := Aside0.mk (Kd.R_lower ho10 (below_size (by repeat (first | (with_reducible first | exact HB.out | apply below_alloc | apply pw_below_drewN | apply below_drew1 | refine below_set ?_ GE102.out) | exact HB.out)))); have n1_ := Aside0.mk (blk_below (g := gb102) (o := .cells #[.slice A0_0 l0_0.length c0_0] 24 (0, 0)) (by (with_reducible repeat (first | refine blk_drewN ?_ _ | refine blk_drew ?_ | refine blk_alloc ?_ _)); exact BK102.out) hb); have n2_ := Aside0.mk (below_step (by repeat (first | (with_reducible first | exact HB.out | apply below_alloc | apply pw_below_drewN | apply below_drew1 | refine below_set ?_ GE102.out) | exact HB.out)) hb); clear BK102; clear HB; have HO105 := n0_; have BK102 := n1_; have HB := n2_; clear n0_ n1_ n2_; clear hb ho10) | ((with_reducible refine gate_dst (N := 18) rfl ?_); refine Kd.R_make (Kd.int .i64) _ 3 rfl (N := 18) rfl 79 _ _ rfl (l0_0.length : Int) rfl rfl Tryd.underlying79 (.int .i64 0) 8 info3 rfl (by decide) (by omega) 0 (ok := fun _ => True) (okp := fun _ => True) rfl (fun _ hk => hk) trivial (of_decide_eq_true (by first | (with_reducible assumption) | assumption)) (Nat.le_trans (Nat.mul_le_mul_right _ (of_decide_eq_true (by first | (with_reducible assumption) | assumption) : (l0_0.length : Int).toNat ≤ 35184372088832)) (by omega)) (Below.refl _ _) (Nat.le_refl _) ?_; intro v107 w11 ho12 hb hg_ hnew_; clear hg_ hnew_; (first | rw [← Ny106.out] at ho12 | (simp only [Int.reduceToNat] at ho12; rw [← Ny106.out] at ho12)); have n0_ := Aside0.mk (Kd.R_elder' (by (with_reducible repeat (first | apply Kd.R_alloc | apply Kd.R_drewN | apply Kd.R_drew)); exact HO105.out) (Kd.R_base ho12) hb); have n1_ := Aside0.mk (Kd.R_lower (Kd.R_new' ho12 (Kd.R_lt (by (with_reducible repeat (first | apply Kd.R_alloc | apply Kd.R_drewN | apply Kd.R_drew)); exact HO105.out))) (below_size (by repeat (first | (with_reducible first | exact HB.out | apply below_alloc | apply pw_below_drewN | apply below_drew1 | refine below_set ?_ GE102.out) | exact HB.out)))); have n2_ := Aside0.mk (blk_below (g := gb102) (o := .cells #[.slice A0_0 l0_0.length c0_0] 24 (0, 0)) (by (with_reducible repeat (first | refine blk_drewN ?_ _ | refine blk_drew ?_ | refine blk_alloc ?_ _)); exact BK102.out) hb); have n3_ := Aside0.mk (below_step (by repeat (first | (with_reducible first | exact HB.out | apply below_alloc | apply pw_below_drewN | apply below_drew1 | refine below_set ?_ GE102.out) | exact HB.out)) hb); clear HO105; clear BK102; clear HB; have HO105 := n0_; have HO108 := n1_; have BK102 := n2_; have HB := n3_; clear n0_ n1_ n2_ n3_; clear hb ho12))
        go_loopg [6] k (fun kq v6 w' => ∃ (x4_1 : List Int) (x5_1 : List Int) (x6_1 : Int), v6 = .int .i64 x6_1 ∧ Aside0 (crossbarref07_valid.l0 kq (l0_0.length : Int) x4_1 x5_1 x6_1 l0_0 = some r) ∧ Aside0 (kq ≤ k) ∧ Aside0 (Kd.R (Kd.int .i64) 3 w' w.heap.size (fun k_ => some k_ ≠ (v107 : Value).ownBlock) v104 x4_1) ∧ Aside0 (Kd.R (Kd.int .i64) 3 w' w.heap.size (fun k_ => some k_ ≠ (v104 : Value).ownBlock) v107 x5_1) ∧ Aside0 (w'.heap[gb102]? = some (.cells #[(.slice A0_0 l0_0.length c0_0)] 24 (0, 0))) ∧ Aside0 (Below w.heap.size w w'))
        case atStart => exact ⟨(y103), (y106), (0), (by first | rfl | (simp; done) | (simp [*]; done)), H', ⟨Nat.le_refl _⟩, ⟨by (with_reducible repeat (first | apply Kd.R_alloc | apply Kd.R_drewN | apply Kd.R_drew)); exact Kd.R_mono HO105.out (fun _ hk => hk.2)⟩, ⟨by (with_reducible repeat (first | apply Kd.R_alloc | apply Kd.R_drewN | apply Kd.R_drew)); exact Kd.R_mono HO108.out (fun _ hk => hk.2)⟩, ⟨by (with_reducible repeat (first | refine blk_drewN ?_ _ | refine blk_drew ?_ | refine blk_alloc ?_ _)); exact BK102.out⟩, ⟨by repeat (first | (with_reducible first | exact HB.out | apply below_alloc | apply pw_below_drewN | apply below_drew1 | refine below_set ?_ GE102.out) | exact HB.out)⟩⟩
        case round =>
          clear H'
          try clear c2
          try clear c2b0
          try clear c2b1
          try clear p2
          try clear c5
          try clear c5b0
          try clear c5b1
          try clear c6
          try clear c6b0
          try clear c6b1
          try clear hcz4_0
          try clear hcz8_0
          try clear hfz4_0
          try clear hfz8_0
          obtain ⟨x4_1, x5_1, x6_1, rfl, HA, HK1, HO_4, HO_5, BK102, HB⟩ := hrel
          cases gk with
          | zero => exact absurd HA.out (by simp [crossbarref07_valid.l0])
          | succ k1 =>
            have H := HA.out
            clear HA
            simp only [crossbarref07_valid.l0] at H
            by_cases c13 : x6_1 < (l0_0.length : Int)
            · rw [if_pos c13] at H
              have c13b0 : decide (x6_1 < (l0_0.length : Int)) = true := decide_eq_true c13
              clear c13
              have HC14 := Aside0.mk H
              clear H
              go_upto_region 9 with (fail)
              go_cut [39] (fun v39 wc => ∃ (kq : Nat) (x39_13 : Bool), v39 = .bool x39_13 ∧ Aside0 (crossbarref07_valid.j1 kq (l0_0.length : Int) x4_1 x5_1 x6_1 x39_13 l0_0 = some r) ∧ Aside0 (kq ≤ k1) ∧ Aside0 (Kd.R (Kd.int .i64) 3 wc w.heap.size (fun k_ => some k_ ≠ (v107 : Value).ownBlock) v104 x4_1) ∧ Aside0 (Kd.R (Kd.int .i64) 3 wc w.heap.size (fun k_ => some k_ ≠ (v104 : Value).ownBlock) v107 x5_1) ∧ Aside0 (wc.heap[gb102]? = some (.cells #[(.slice A0_0 l0_0.length c0_0)] 24 (0, 0))) ∧ Aside0 (Below w.heap.size w wc))
              case first =>
                have H := HC14.out
                clear HC14
                by_cases c15 : 0 ≤ x6_1
                · rw [if_pos c15] at H
                  have c15b0 : decide (0 ≤ x6_1) = true := decide_eq_true c15
                  clear c15
                  (first | rw [c15b0] | (simp only [i64_w, i32_w]; rw [c15b0]) | skip)
                  by_cases c16 : x6_1 < (l0_0.length : Int)
                  · rw [if_pos c16] at H
                    have c16b0 : decide (x6_1 < (l0_0.length : Int)) = true := decide_eq_true c16
                    clear c16
                    by_cases c17 : ((rd_T71 l0_0 x6_1).f1) < 0
                    · rw [if_pos c17] at H
                      have c17b0 : decide (((rd_T71 l0_0 x6_1).f1) < 0) = true := decide_eq_true c17
                      clear c17
                      have H' := Aside0.mk H
                      clear H
                      have hcz18_0 : wr.cell? ⟨gb102, 0, none⟩ = some (.slice A0_0 l0_0.length c0_0) := (blk_cell BK102.out 0).trans rfl
                      have hfz18_0 := blk_frozen BK102.out 0
                      have p109 : 0 ≤ (x6_1 : Int) := of_decide_eq_true (by first | (with_reducible assumption) | assumption)
                      have q109 : x6_1 < (l0_0.length : Int) := of_decide_eq_true (by first | (with_reducible assumption) | assumption)
                      obtain ⟨ad109, e109, hx109_0, hx109_1, hx109_2, hx109_3, hx109_4, hx109_5, hx109_6, hx109_7, hx109_8, hx109_9, hx109_10⟩ := at_T71 HR0_0.out x6_1 p109 q109
                      cases e109
                      replace hx109_0 := (HB.out.cell (World.block_lt_of_cell? w _ hx109_0)).trans hx109_0
                      replace hx109_1 := (HB.out.cell (World.block_lt_of_cell? w _ hx109_1)).trans hx109_1
                      replace hx109_2 := (HB.out.cell (World.block_lt_of_cell? w _ hx109_2)).trans hx109_2
                      replace hx109_3 := (HB.out.cell (World.block_lt_of_cell? w _ hx109_3)).trans hx109_3
                      replace hx109_4 := (HB.out.cell (World.block_lt_of_cell? w _ hx109_4)).trans hx109_4
                      replace hx109_5 := (HB.out.cell (World.block_lt_of_cell? w _ hx109_5)).trans hx109_5
                      replace hx109_6 := (HB.out.cell (World.block_lt_of_cell? w _ hx109_6)).trans hx109_6
                      replace hx109_7 := (HB.out.cell (World.block_lt_of_cell? w _ hx109_7)).trans hx109_7
                      replace hx109_8 := (HB.out.cell (World.block_lt_of_cell? w _ hx109_8)).trans hx109_8
                      replace hx109_9 := (HB.out.cell (World.block_lt_of_cell? w _ hx109_9)).trans hx109_9
                      replace hx109_10 := (HB.out.cell (World.block_lt_of_cell? w _ hx109_10)).trans hx109_10
                      replace p109 := eq_true p109
                      replace q109 := eq_true q109
                      go_wp2
                      go_meet
                      case rel => exact ⟨_, (true), (by first | rfl | (simp; done) | (simp [*]; done)), H', ⟨by have := HK1.out; first | omega | exact Nat.le_refl _⟩, ⟨by (with_reducible repeat (first | apply Kd.R_alloc | apply Kd.R_drewN | apply Kd.R_drew)); exact HO_4.out⟩, ⟨by (with_reducible repeat (first | apply Kd.R_alloc | apply Kd.R_drewN | apply Kd.R_drew)); exact HO_5.out⟩, ⟨by (with_reducible repeat (first | refine blk_drewN ?_ _ | refine blk_drew ?_ | refine blk_alloc ?_ _)); exact BK102.out⟩, ⟨by repeat (first | (with_reducible first | exact HB.out | apply below_alloc | apply pw_below_drewN | apply below_drew1 | refine below_set ?_ GE102.out) | exact HB.out)⟩⟩
                    · rw [if_neg c17] at H
                      have c17b0 : decide (((rd_T71 l0_0 x6_1).f1) < 0) = false := decide_eq_false c17
                      clear c17
                      have H' := Aside0.mk H
                      clear H
                      have hcz19_0 : wr.cell? ⟨gb102, 0, none⟩ = some (.slice A0_0 l0_0.length c0_0) := (blk_cell BK102.out 0).trans rfl
                      have hfz19_0 := blk_frozen BK102.out 0
                      have p109 : 0 ≤ (x6_1 : Int) := of_decide_eq_true (by first | (with_reducible assumption) | assumption)
                      have q109 : x6_1 < (l0_0.length : Int) := of_decide_eq_true (by first | (with_reducible assumption) | assumption)
                      obtain ⟨ad109, e109, hx109_0, hx109_1, hx109_2, hx109_3, hx109_4, hx109_5, hx109_6, hx109_7, hx109_8, hx109_9, hx109_10⟩ := at_T71 HR0_0.out x6_1 p109 q109
                      cases e109
                      replace hx109_0 := (HB.out.cell (World.block_lt_of_cell? w _ hx109_0)).trans hx109_0
                      replace hx109_1 := (HB.out.cell (World.block_lt_of_cell? w _ hx109_1)).trans hx109_1
                      replace hx109_2 := (HB.out.cell (World.block_lt_of_cell? w _ hx109_2)).trans hx109_2
                      replace hx109_3 := (HB.out.cell (World.block_lt_of_cell? w _ hx109_3)).trans hx109_3
                      replace hx109_4 := (HB.out.cell (World.block_lt_of_cell? w _ hx109_4)).trans hx109_4
                      replace hx109_5 := (HB.out.cell (World.block_lt_of_cell? w _ hx109_5)).trans hx109_5
                      replace hx109_6 := (HB.out.cell (World.block_lt_of_cell? w _ hx109_6)).trans hx109_6
                      replace hx109_7 := (HB.out.cell (World.block_lt_of_cell? w _ hx109_7)).trans hx109_7
                      replace hx109_8 := (HB.out.cell (World.block_lt_of_cell? w _ hx109_8)).trans hx109_8
                      replace hx109_9 := (HB.out.cell (World.block_lt_of_cell? w _ hx109_9)).trans hx109_9
                      replace hx109_10 := (HB.out.cell (World.block_lt_of_cell? w _ hx109_10)).trans hx109_10
                      replace p109 := eq_true p109
                      replace q109 := eq_true q109
                      have p110 : 0 ≤ (x6_1 : Int) := of_decide_eq_true (by first | (with_reducible assumption) | assumption)
                      have q110 : x6_1 < (l0_0.length : Int) := of_decide_eq_true (by first | (with_reducible assumption) | assumption)
                      obtain ⟨ad110, e110, hx110_0, hx110_1, hx110_2, hx110_3, hx110_4, hx110_5, hx110_6, hx110_7, hx110_8, hx110_9, hx110_10⟩ := at_T71 HR0_0.out x6_1 p110 q110
                      obtain rfl : ad109 = ad110 := (by injection e110)
                      replace hx110_0 := (HB.out.cell (World.block_lt_of_cell? w _ hx110_0)).trans hx110_0
                      replace hx110_1 := (HB.out.cell (World.block_lt_of_cell? w _ hx110_1)).trans hx110_1
                      replace hx110_2 := (HB.out.cell (World.block_lt_of_cell? w _ hx110_2)).trans hx110_2
                      replace hx110_3 := (HB.out.cell (World.block_lt_of_cell? w _ hx110_3)).trans hx110_3
                      replace hx110_4 := (HB.out.cell (World.block_lt_of_cell? w _ hx110_4)).trans hx110_4
                      replace hx110_5 := (HB.out.cell (World.block_lt_of_cell? w _ hx110_5)).trans hx110_5
                      replace hx110_6 := (HB.out.cell (World.block_lt_of_cell? w _ hx110_6)).trans hx110_6
                      replace hx110_7 := (HB.out.cell (World.block_lt_of_cell? w _ hx110_7)).trans hx110_7
                      replace hx110_8 := (HB.out.cell (World.block_lt_of_cell? w _ hx110_8)).trans hx110_8
                      replace hx110_9 := (HB.out.cell (World.block_lt_of_cell? w _ hx110_9)).trans hx110_9
                      replace hx110_10 := (HB.out.cell (World.block_lt_of_cell? w _ hx110_10)).trans hx110_10
                      replace p110 := eq_true p110
                      replace q110 := eq_true q110
                      go_wp2
                      go_meet
                      case rel => exact ⟨_, (decide (((rd_T71 l0_0 x6_1).f1) > 1099511627776)), (by first | rfl | (simp; done) | (simp [*]; done)), H', ⟨by have := HK1.out; first | omega | exact Nat.le_refl _⟩, ⟨by (with_reducible repeat (first | apply Kd.R_alloc | apply Kd.R_drewN | apply Kd.R_drew)); exact HO_4.out⟩, ⟨by (with_reducible repeat (first | apply Kd.R_alloc | apply Kd.R_drewN | apply Kd.R_drew)); exact HO_5.out⟩, ⟨by (with_reducible repeat (first | refine blk_drewN ?_ _ | refine blk_drew ?_ | refine blk_alloc ?_ _)); exact BK102.out⟩, ⟨by repeat (first | (with_reducible first | exact HB.out | apply below_alloc | apply pw_below_drewN | apply below_drew1 | refine below_set ?_ GE102.out) | exact HB.out)⟩⟩
                  · rw [if_neg c16] at H
                    exact absurd H (by simp)
                · rw [if_neg c15] at H
                  exact absurd H (by simp)
              case rest =>
                clear HC14
                try clear c1
                try clear p1
                try clear q1
                try clear hx1
                try clear c2
                try clear c2b0
                try clear c2b1
                try clear p2
                try clear c5
                try clear c5b0
                try clear c5b1
                try clear c6
                try clear c6b0
                try clear c6b1
                try clear p10
                try clear q10
                try clear hx10
                try clear p11
                try clear q11
                try clear hx11
                try clear c13
                try clear c13b0
                try clear c15
                try clear c15b0
                try clear c16
                try clear c16b0
                try clear c17
                try clear c17b0
                try clear hcz18_0
                try clear hcz19_0
                try clear hcz4_0
                try clear hcz8_0
                try clear hfz18_0
                try clear hfz19_0
                try clear hfz4_0
                try clear hfz8_0
                try clear hx109_0
                try clear hx109_1
                try clear hx109_10
                try clear hx109_2
                try clear hx109_3
                try clear hx109_4
                try clear hx109_5
                try clear hx109_6
                try clear hx109_7
                try clear hx109_8
                try clear hx109_9
                try clear hx110_0
                try clear hx110_1
                try clear hx110_10
                try clear hx110_2
                try clear hx110_3
                try clear hx110_4
                try clear hx110_5
                try clear hx110_6
                try clear hx110_7
                try clear hx110_8
                try clear hx110_9
                try clear p109
                try clear p110
                try clear p2
                try clear q109
                try clear q110
                obtain ⟨kq, x39_13, rfl, HA, HJ13, HO_4, HO_5, BK102, HB⟩ := hcut
                cases kq with
                | zero => exact absurd HA.out (by simp [crossbarref07_valid.j1])
                | succ kj13 =>
                  have H := HA.out
                  clear HA
                  simp only [crossbarref07_valid.j1] at H
                  by_cases c20 : x39_13 = true
                  · subst c20
                    have H1 : (some false) = some r := by rw [if_pos rfl] at H; exact H
                    clear H
                    have H := H1
                    clear H1
                    obtain rfl := Option.some.inj H
                    go_wp2
                    go_ret
                    exact ⟨by first | rfl | (simp [errW_none, errW_some] <;> rfl) | (simp [*, errW_none, errW_some] <;> rfl), by repeat (first | (with_reducible first | exact HB.out | apply below_alloc | apply pw_below_drewN | apply below_drew1 | refine below_set ?_ GE102.out) | exact HB.out)⟩
                  · replace c20 := Bool.eq_false_iff.mpr c20
                    subst c20
                    have H1 : (crossbarref07_valid.l1 kj13 (l0_0.length : Int) x4_1 x5_1 x6_1 0 l0_0) = some r := by rw [if_neg (show ¬ (false = true) by decide)] at H; exact H
                    clear H
                    have H := H1
                    clear H1
                    have H' := Aside0.mk H
                    clear H
                    go_wp2
                    go_loopg [7] kj13 (fun kq v7 w' => ∃ (x4_3 : List Int) (x5_3 : List Int) (x7_3 : Int), v7 = .int .i64 x7_3 ∧ Aside0 (crossbarref07_valid.l1 kq (l0_0.length : Int) x4_3 x5_3 x6_1 x7_3 l0_0 = some r) ∧ Aside0 (kq ≤ kj13) ∧ Aside0 (Kd.R (Kd.int .i64) 3 w' w.heap.size (fun k_ => some k_ ≠ (v107 : Value).ownBlock) v104 x4_3) ∧ Aside0 (Kd.R (Kd.int .i64) 3 w' w.heap.size (fun k_ => some k_ ≠ (v104 : Value).ownBlock) v107 x5_3) ∧ Aside0 (w'.heap[gb102]? = some (.cells #[(.slice A0_0 l0_0.length c0_0)] 24 (0, 0))) ∧ Aside0 (Below w.heap.size w w'))
                    case atStart => exact ⟨(x4_1), (x5_1), (0), (by first | rfl | (simp; done) | (simp [*]; done)), H', ⟨Nat.le_refl _⟩, ⟨by (with_reducible repeat (first | apply Kd.R_alloc | apply Kd.R_drewN | apply Kd.R_drew)); exact HO_4.out⟩, ⟨by (with_reducible repeat (first | apply Kd.R_alloc | apply Kd.R_drewN | apply Kd.R_drew)); exact HO_5.out⟩, ⟨by (with_reducible repeat (first | refine blk_drewN ?_ _ | refine blk_drew ?_ | refine blk_alloc ?_ _)); exact BK102.out⟩, ⟨by repeat (first | (with_reducible first | exact HB.out | apply below_alloc | apply pw_below_drewN | apply below_drew1 | refine below_set ?_ GE102.out) | exact HB.out)⟩⟩
                    case round =>
                      clear H'
                      try clear c1
                      try clear p1
                      try clear q1
                      try clear hx1
                      try clear c2
                      try clear c2b0
                      try clear c2b1
                      try clear p2
                      try clear c5
                      try clear c5b0
                      try clear c5b1
                      try clear c6
                      try clear c6b0
                      try clear c6b1
                      try clear p10
                      try clear q10
                      try clear hx10
                      try clear p11
                      try clear q11
                      try clear hx11
                      try clear c13
                      try clear c13b0
                      try clear c15
                      try clear c15b0
                      try clear c16
                      try clear c16b0
                      try clear c17
                      try clear c17b0
                      try clear c20
                      try clear hcz18_0
                      try clear hcz19_0
                      try clear hcz4_0
                      try clear hcz8_0
                      try clear hfz18_0
                      try clear hfz19_0
                      try clear hfz4_0
                      try clear hfz8_0
                      try clear hx109_0
                      try clear hx109_1
                      try clear hx109_10
                      try clear hx109_2
                      try clear hx109_3
                      try clear hx109_4
                      try clear hx109_5
                      try clear hx109_6
                      try clear hx109_7
                      try clear hx109_8
                      try clear hx109_9
                      try clear hx110_0
                      try clear hx110_1
                      try clear hx110_10
                      try clear hx110_2
                      try clear hx110_3
                      try clear hx110_4
                      try clear hx110_5
                      try clear hx110_6
                      try clear hx110_7
                      try clear hx110_8
                      try clear hx110_9
                      try clear p1
                      try clear p10
                      try clear p109
                      try clear p11
                      try clear p110
                      try clear p2
                      try clear q1
                      try clear q10
                      try clear q109
                      try clear q11
                      try clear q110
                      obtain ⟨x4_3, x5_3, x7_3, rfl, HA, HK3, HO_4, HO_5, BK102, HB⟩ := hrel
                      cases gk with
                      | zero => exact absurd HA.out (by simp [crossbarref07_valid.l1])
                      | succ k3 =>
                        have H := HA.out
                        clear HA
                        simp only [crossbarref07_valid.l1] at H
                        by_cases c21 : x7_3 < 10
                        · rw [if_pos c21] at H
                          have c21b0 : decide (x7_3 < 10) = true := decide_eq_true c21
                          clear c21
                          by_cases c22 : 0 ≤ x6_1
                          · rw [if_pos c22] at H
                            have c22b0 : decide (0 ≤ x6_1) = true := decide_eq_true c22
                            clear c22
                            by_cases c23 : x6_1 < (l0_0.length : Int)
                            · rw [if_pos c23] at H
                              have c23b0 : decide (x6_1 < (l0_0.length : Int)) = true := decide_eq_true c23
                              clear c23
                              by_cases c24 : 0 ≤ x7_3
                              · rw [if_pos c24] at H
                                have c24b0 : decide (0 ≤ x7_3) = true := decide_eq_true c24
                                clear c24
                                by_cases c26 : (at69 (⟨(rd_T71 l0_0 x6_1).f0.f0, (rd_T71 l0_0 x6_1).f0.f1, (rd_T71 l0_0 x6_1).f0.f2, (rd_T71 l0_0 x6_1).f0.f3, (rd_T71 l0_0 x6_1).f0.f4, (rd_T71 l0_0 x6_1).f0.f5, (rd_T71 l0_0 x6_1).f0.f6, (rd_T71 l0_0 x6_1).f0.f7, (rd_T71 l0_0 x6_1).f0.f8, (rd_T71 l0_0 x6_1).f0.f9⟩ : S69) x7_3) = 0
                                · rw [if_pos c26] at H
                                  have c26b0 : ((at69 (⟨(rd_T71 l0_0 x6_1).f0.f0, (rd_T71 l0_0 x6_1).f0.f1, (rd_T71 l0_0 x6_1).f0.f2, (rd_T71 l0_0 x6_1).f0.f3, (rd_T71 l0_0 x6_1).f0.f4, (rd_T71 l0_0 x6_1).f0.f5, (rd_T71 l0_0 x6_1).f0.f6, (rd_T71 l0_0 x6_1).f0.f7, (rd_T71 l0_0 x6_1).f0.f8, (rd_T71 l0_0 x6_1).f0.f9⟩ : S69) x7_3) == 0) = true := beq_iff_eq.mpr c26
                                  have c26b1 : ((at69 (⟨(rd_T71 l0_0 x6_1).f0.f0, (rd_T71 l0_0 x6_1).f0.f1, (rd_T71 l0_0 x6_1).f0.f2, (rd_T71 l0_0 x6_1).f0.f3, (rd_T71 l0_0 x6_1).f0.f4, (rd_T71 l0_0 x6_1).f0.f5, (rd_T71 l0_0 x6_1).f0.f6, (rd_T71 l0_0 x6_1).f0.f7, (rd_T71 l0_0 x6_1).f0.f8, (rd_T71 l0_0 x6_1).f0.f9⟩ : S69) x7_3) != 0) = false := bne_eq_false_iff_eq.mpr c26
                                  clear c26
                                  have H' := Aside0.mk H
                                  clear H
                                  have hcz27_0 : wr.cell? ⟨gb102, 0, none⟩ = some (.slice A0_0 l0_0.length c0_0) := (blk_cell BK102.out 0).trans rfl
                                  have hfz27_0 := blk_frozen BK102.out 0
                                  have p111 : 0 ≤ (x6_1 : Int) := of_decide_eq_true (by first | (with_reducible assumption) | assumption)
                                  have q111 : x6_1 < (l0_0.length : Int) := of_decide_eq_true (by first | (with_reducible assumption) | assumption)
                                  obtain ⟨ad111, e111, hx111_0, hx111_1, hx111_2, hx111_3, hx111_4, hx111_5, hx111_6, hx111_7, hx111_8, hx111_9, hx111_10⟩ := at_T71 HR0_0.out x6_1 p111 q111
                                  cases e111
                                  replace hx111_0 := (HB.out.cell (World.block_lt_of_cell? w _ hx111_0)).trans hx111_0
                                  replace hx111_1 := (HB.out.cell (World.block_lt_of_cell? w _ hx111_1)).trans hx111_1
                                  replace hx111_2 := (HB.out.cell (World.block_lt_of_cell? w _ hx111_2)).trans hx111_2
                                  replace hx111_3 := (HB.out.cell (World.block_lt_of_cell? w _ hx111_3)).trans hx111_3
                                  replace hx111_4 := (HB.out.cell (World.block_lt_of_cell? w _ hx111_4)).trans hx111_4
                                  replace hx111_5 := (HB.out.cell (World.block_lt_of_cell? w _ hx111_5)).trans hx111_5
                                  replace hx111_6 := (HB.out.cell (World.block_lt_of_cell? w _ hx111_6)).trans hx111_6
                                  replace hx111_7 := (HB.out.cell (World.block_lt_of_cell? w _ hx111_7)).trans hx111_7
                                  replace hx111_8 := (HB.out.cell (World.block_lt_of_cell? w _ hx111_8)).trans hx111_8
                                  replace hx111_9 := (HB.out.cell (World.block_lt_of_cell? w _ hx111_9)).trans hx111_9
                                  replace hx111_10 := (HB.out.cell (World.block_lt_of_cell? w _ hx111_10)).trans hx111_10
                                  replace p111 := eq_true p111
                                  replace q111 := eq_true q111
                                  have p25 : 0 ≤ (x7_3 : Int) := (by first | omega | exact of_decide_eq_true (by first | (with_reducible assumption) | assumption))
                                  have q25 : x7_3 < (10 : Int) := (by first | omega | exact of_decide_eq_true (by first | (with_reducible assumption) | assumption))
                                  have hx25_0 := cell_at69 p25 q25 hx111_0 hx111_1 hx111_2 hx111_3 hx111_4 hx111_5 hx111_6 hx111_7 hx111_8 hx111_9
                                  replace p25 := eq_true p25
                                  replace q25 := eq_true q25
                                  go_wp2
                                  go_roundg k3
                                  case measure => have := HK1.out; have := HJ13.out; have := HK3.out; omega
                                  case rel => exact ⟨(x4_3), (x5_3), (wrap64 (x7_3 + 1)), (by first | rfl | (simp; done) | (simp [*]; done)), H', ⟨by have := HK1.out; have := HJ13.out; have := HK3.out; omega⟩, ⟨by (with_reducible repeat (first | apply Kd.R_alloc | apply Kd.R_drewN | apply Kd.R_drew)); exact HO_4.out⟩, ⟨by (with_reducible repeat (first | apply Kd.R_alloc | apply Kd.R_drewN | apply Kd.R_drew)); exact HO_5.out⟩, ⟨by (with_reducible repeat (first | refine blk_drewN ?_ _ | refine blk_drew ?_ | refine blk_alloc ?_ _)); exact BK102.out⟩, ⟨by repeat (first | (with_reducible first | exact HB.out | apply below_alloc | apply pw_below_drewN | apply below_drew1 | refine below_set ?_ GE102.out) | exact HB.out)⟩⟩
                                · rw [if_neg c26] at H
                                  have c26b0 : ((at69 (⟨(rd_T71 l0_0 x6_1).f0.f0, (rd_T71 l0_0 x6_1).f0.f1, (rd_T71 l0_0 x6_1).f0.f2, (rd_T71 l0_0 x6_1).f0.f3, (rd_T71 l0_0 x6_1).f0.f4, (rd_T71 l0_0 x6_1).f0.f5, (rd_T71 l0_0 x6_1).f0.f6, (rd_T71 l0_0 x6_1).f0.f7, (rd_T71 l0_0 x6_1).f0.f8, (rd_T71 l0_0 x6_1).f0.f9⟩ : S69) x7_3) == 0) = false := beq_eq_false_iff_ne.mpr c26
                                  have c26b1 : ((at69 (⟨(rd_T71 l0_0 x6_1).f0.f0, (rd_T71 l0_0 x6_1).f0.f1, (rd_T71 l0_0 x6_1).f0.f2, (rd_T71 l0_0 x6_1).f0.f3, (rd_T71 l0_0 x6_1).f0.f4, (rd_T71 l0_0 x6_1).f0.f5, (rd_T71 l0_0 x6_1).f0.f6, (rd_T71 l0_0 x6_1).f0.f7, (rd_T71 l0_0 x6_1).f0.f8, (rd_T71 l0_0 x6_1).f0.f9⟩ : S69) x7_3) != 0) = true := bne_iff_ne.mpr c26
                                  by_cases c28 : (at69 (⟨(rd_T71 l0_0 x6_1).f0.f0, (rd_T71 l0_0 x6_1).f0.f1, (rd_T71 l0_0 x6_1).f0.f2, (rd_T71 l0_0 x6_1).f0.f3, (rd_T71 l0_0 x6_1).f0.f4, (rd_T71 l0_0 x6_1).f0.f5, (rd_T71 l0_0 x6_1).f0.f6, (rd_T71 l0_0 x6_1).f0.f7, (rd_T71 l0_0 x6_1).f0.f8, (rd_T71 l0_0 x6_1).f0.f9⟩ : S69) x7_3) ≤ x6_1
                                  · rw [if_pos c28] at H
                                    have c28b0 : decide ((at69 (⟨(rd_T71 l0_0 x6_1).f0.f0, (rd_T71 l0_0 x6_1).f0.f1, (rd_T71 l0_0 x6_1).f0.f2, (rd_T71 l0_0 x6_1).f0.f3, (rd_T71 l0_0 x6_1).f0.f4, (rd_T71 l0_0 x6_1).f0.f5, (rd_T71 l0_0 x6_1).f0.f6, (rd_T71 l0_0 x6_1).f0.f7, (rd_T71 l0_0 x6_1).f0.f8, (rd_T71 l0_0 x6_1).f0.f9⟩ : S69) x7_3) ≤ x6_1) = true := decide_eq_true c28
                                    clear c28
                                    obtain rfl := Option.some.inj H
                                    have hcz29_0 : wr.cell? ⟨gb102, 0, none⟩ = some (.slice A0_0 l0_0.length c0_0) := (blk_cell BK102.out 0).trans rfl
                                    have hfz29_0 := blk_frozen BK102.out 0
                                    have p111 : 0 ≤ (x6_1 : Int) := of_decide_eq_true (by first | (with_reducible assumption) | assumption)
                                    have q111 : x6_1 < (l0_0.length : Int) := of_decide_eq_true (by first | (with_reducible assumption) | assumption)
                                    obtain ⟨ad111, e111, hx111_0, hx111_1, hx111_2, hx111_3, hx111_4, hx111_5, hx111_6, hx111_7, hx111_8, hx111_9, hx111_10⟩ := at_T71 HR0_0.out x6_1 p111 q111
                                    cases e111
                                    replace hx111_0 := (HB.out.cell (World.block_lt_of_cell? w _ hx111_0)).trans hx111_0
                                    replace hx111_1 := (HB.out.cell (World.block_lt_of_cell? w _ hx111_1)).trans hx111_1
                                    replace hx111_2 := (HB.out.cell (World.block_lt_of_cell? w _ hx111_2)).trans hx111_2
                                    replace hx111_3 := (HB.out.cell (World.block_lt_of_cell? w _ hx111_3)).trans hx111_3
                                    replace hx111_4 := (HB.out.cell (World.block_lt_of_cell? w _ hx111_4)).trans hx111_4
                                    replace hx111_5 := (HB.out.cell (World.block_lt_of_cell? w _ hx111_5)).trans hx111_5
                                    replace hx111_6 := (HB.out.cell (World.block_lt_of_cell? w _ hx111_6)).trans hx111_6
                                    replace hx111_7 := (HB.out.cell (World.block_lt_of_cell? w _ hx111_7)).trans hx111_7
                                    replace hx111_8 := (HB.out.cell (World.block_lt_of_cell? w _ hx111_8)).trans hx111_8
                                    replace hx111_9 := (HB.out.cell (World.block_lt_of_cell? w _ hx111_9)).trans hx111_9
                                    replace hx111_10 := (HB.out.cell (World.block_lt_of_cell? w _ hx111_10)).trans hx111_10
                                    replace p111 := eq_true p111
                                    replace q111 := eq_true q111
                                    have p25 : 0 ≤ (x7_3 : Int) := (by first | omega | exact of_decide_eq_true (by first | (with_reducible assumption) | assumption))
                                    have q25 : x7_3 < (10 : Int) := (by first | omega | exact of_decide_eq_true (by first | (with_reducible assumption) | assumption))
                                    have hx25_0 := cell_at69 p25 q25 hx111_0 hx111_1 hx111_2 hx111_3 hx111_4 hx111_5 hx111_6 hx111_7 hx111_8 hx111_9
                                    replace p25 := eq_true p25
                                    replace q25 := eq_true q25
                                    go_wp2
                                    go_ret
                                    exact ⟨by first | rfl | (simp [errW_none, errW_some] <;> rfl) | (simp [*, errW_none, errW_some] <;> rfl), by repeat (first | (with_reducible first | exact HB.out | apply below_alloc | apply pw_below_drewN | apply below_drew1 | refine below_set ?_ GE102.out) | exact HB.out)⟩
                                  · rw [if_neg c28] at H
                                    have c28b0 : decide ((at69 (⟨(rd_T71 l0_0 x6_1).f0.f0, (rd_T71 l0_0 x6_1).f0.f1, (rd_T71 l0_0 x6_1).f0.f2, (rd_T71 l0_0 x6_1).f0.f3, (rd_T71 l0_0 x6_1).f0.f4, (rd_T71 l0_0 x6_1).f0.f5, (rd_T71 l0_0 x6_1).f0.f6, (rd_T71 l0_0 x6_1).f0.f7, (rd_T71 l0_0 x6_1).f0.f8, (rd_T71 l0_0 x6_1).f0.f9⟩ : S69) x7_3) ≤ x6_1) = false := decide_eq_false c28
                                    clear c28
                                    by_cases c30 : (at69 (⟨(rd_T71 l0_0 x6_1).f0.f0, (rd_T71 l0_0 x6_1).f0.f1, (rd_T71 l0_0 x6_1).f0.f2, (rd_T71 l0_0 x6_1).f0.f3, (rd_T71 l0_0 x6_1).f0.f4, (rd_T71 l0_0 x6_1).f0.f5, (rd_T71 l0_0 x6_1).f0.f6, (rd_T71 l0_0 x6_1).f0.f7, (rd_T71 l0_0 x6_1).f0.f8, (rd_T71 l0_0 x6_1).f0.f9⟩ : S69) x7_3) ≥ (l0_0.length : Int)
                                    · rw [if_pos c30] at H
                                      have c30b0 : decide ((l0_0.length : Int) ≤ (at69 (⟨(rd_T71 l0_0 x6_1).f0.f0, (rd_T71 l0_0 x6_1).f0.f1, (rd_T71 l0_0 x6_1).f0.f2, (rd_T71 l0_0 x6_1).f0.f3, (rd_T71 l0_0 x6_1).f0.f4, (rd_T71 l0_0 x6_1).f0.f5, (rd_T71 l0_0 x6_1).f0.f6, (rd_T71 l0_0 x6_1).f0.f7, (rd_T71 l0_0 x6_1).f0.f8, (rd_T71 l0_0 x6_1).f0.f9⟩ : S69) x7_3)) = true := decide_eq_true c30
                                      clear c30
                                      obtain rfl := Option.some.inj H
                                      have hcz31_0 : wr.cell? ⟨gb102, 0, none⟩ = some (.slice A0_0 l0_0.length c0_0) := (blk_cell BK102.out 0).trans rfl
                                      have hfz31_0 := blk_frozen BK102.out 0
                                      have p111 : 0 ≤ (x6_1 : Int) := of_decide_eq_true (by first | (with_reducible assumption) | assumption)
                                      have q111 : x6_1 < (l0_0.length : Int) := of_decide_eq_true (by first | (with_reducible assumption) | assumption)
                                      obtain ⟨ad111, e111, hx111_0, hx111_1, hx111_2, hx111_3, hx111_4, hx111_5, hx111_6, hx111_7, hx111_8, hx111_9, hx111_10⟩ := at_T71 HR0_0.out x6_1 p111 q111
                                      cases e111
                                      replace hx111_0 := (HB.out.cell (World.block_lt_of_cell? w _ hx111_0)).trans hx111_0
                                      replace hx111_1 := (HB.out.cell (World.block_lt_of_cell? w _ hx111_1)).trans hx111_1
                                      replace hx111_2 := (HB.out.cell (World.block_lt_of_cell? w _ hx111_2)).trans hx111_2
                                      replace hx111_3 := (HB.out.cell (World.block_lt_of_cell? w _ hx111_3)).trans hx111_3
                                      replace hx111_4 := (HB.out.cell (World.block_lt_of_cell? w _ hx111_4)).trans hx111_4
                                      replace hx111_5 := (HB.out.cell (World.block_lt_of_cell? w _ hx111_5)).trans hx111_5
                                      replace hx111_6 := (HB.out.cell (World.block_lt_of_cell? w _ hx111_6)).trans hx111_6
                                      replace hx111_7 := (HB.out.cell (World.block_lt_of_cell? w _ hx111_7)).trans hx111_7
                                      replace hx111_8 := (HB.out.cell (World.block_lt_of_cell? w _ hx111_8)).trans hx111_8
                                      replace hx111_9 := (HB.out.cell (World.block_lt_of_cell? w _ hx111_9)).trans hx111_9
                                      replace hx111_10 := (HB.out.cell (World.block_lt_of_cell? w _ hx111_10)).trans hx111_10
                                      replace p111 := eq_true p111
                                      replace q111 := eq_true q111
                                      have p25 : 0 ≤ (x7_3 : Int) := (by first | omega | exact of_decide_eq_true (by first | (with_reducible assumption) | assumption))
                                      have q25 : x7_3 < (10 : Int) := (by first | omega | exact of_decide_eq_true (by first | (with_reducible assumption) | assumption))
                                      have hx25_0 := cell_at69 p25 q25 hx111_0 hx111_1 hx111_2 hx111_3 hx111_4 hx111_5 hx111_6 hx111_7 hx111_8 hx111_9
                                      replace p25 := eq_true p25
                                      replace q25 := eq_true q25
                                      go_wp2
                                      go_ret
                                      exact ⟨by first | rfl | (simp [errW_none, errW_some] <;> rfl) | (simp [*, errW_none, errW_some] <;> rfl), by repeat (first | (with_reducible first | exact HB.out | apply below_alloc | apply pw_below_drewN | apply below_drew1 | refine below_set ?_ GE102.out) | exact HB.out)⟩
                                    · rw [if_neg c30] at H
                                      have c30b0 : decide ((l0_0.length : Int) ≤ (at69 (⟨(rd_T71 l0_0 x6_1).f0.f0, (rd_T71 l0_0 x6_1).f0.f1, (rd_T71 l0_0 x6_1).f0.f2, (rd_T71 l0_0 x6_1).f0.f3, (rd_T71 l0_0 x6_1).f0.f4, (rd_T71 l0_0 x6_1).f0.f5, (rd_T71 l0_0 x6_1).f0.f6, (rd_T71 l0_0 x6_1).f0.f7, (rd_T71 l0_0 x6_1).f0.f8, (rd_T71 l0_0 x6_1).f0.f9⟩ : S69) x7_3)) = false := decide_eq_false c30
                                      clear c30
                                      by_cases c32 : 0 ≤ (at69 (⟨(rd_T71 l0_0 x6_1).f0.f0, (rd_T71 l0_0 x6_1).f0.f1, (rd_T71 l0_0 x6_1).f0.f2, (rd_T71 l0_0 x6_1).f0.f3, (rd_T71 l0_0 x6_1).f0.f4, (rd_T71 l0_0 x6_1).f0.f5, (rd_T71 l0_0 x6_1).f0.f6, (rd_T71 l0_0 x6_1).f0.f7, (rd_T71 l0_0 x6_1).f0.f8, (rd_T71 l0_0 x6_1).f0.f9⟩ : S69) x7_3)
                                      · rw [if_pos c32] at H
                                        have c32b0 : decide (0 ≤ (at69 (⟨(rd_T71 l0_0 x6_1).f0.f0, (rd_T71 l0_0 x6_1).f0.f1, (rd_T71 l0_0 x6_1).f0.f2, (rd_T71 l0_0 x6_1).f0.f3, (rd_T71 l0_0 x6_1).f0.f4, (rd_T71 l0_0 x6_1).f0.f5, (rd_T71 l0_0 x6_1).f0.f6, (rd_T71 l0_0 x6_1).f0.f7, (rd_T71 l0_0 x6_1).f0.f8, (rd_T71 l0_0 x6_1).f0.f9⟩ : S69) x7_3)) = true := decide_eq_true c32
                                        clear c32
                                        by_cases c33 : (at69 (⟨(rd_T71 l0_0 x6_1).f0.f0, (rd_T71 l0_0 x6_1).f0.f1, (rd_T71 l0_0 x6_1).f0.f2, (rd_T71 l0_0 x6_1).f0.f3, (rd_T71 l0_0 x6_1).f0.f4, (rd_T71 l0_0 x6_1).f0.f5, (rd_T71 l0_0 x6_1).f0.f6, (rd_T71 l0_0 x6_1).f0.f7, (rd_T71 l0_0 x6_1).f0.f8, (rd_T71 l0_0 x6_1).f0.f9⟩ : S69) x7_3) < (x4_3.length : Int)
                                        · rw [if_pos c33] at H
                                          have c33b0 : decide ((at69 (⟨(rd_T71 l0_0 x6_1).f0.f0, (rd_T71 l0_0 x6_1).f0.f1, (rd_T71 l0_0 x6_1).f0.f2, (rd_T71 l0_0 x6_1).f0.f3, (rd_T71 l0_0 x6_1).f0.f4, (rd_T71 l0_0 x6_1).f0.f5, (rd_T71 l0_0 x6_1).f0.f6, (rd_T71 l0_0 x6_1).f0.f7, (rd_T71 l0_0 x6_1).f0.f8, (rd_T71 l0_0 x6_1).f0.f9⟩ : S69) x7_3) < (x4_3.length : Int)) = true := decide_eq_true c33
                                          clear c33
                                          obtain ⟨y113, hy113⟩ : ∃ y_ : List Int, y_ = (x4_3.set ((at69 (⟨(rd_T71 l0_0 x6_1).f0.f0, (rd_T71 l0_0 x6_1).f0.f1, (rd_T71 l0_0 x6_1).f0.f2, (rd_T71 l0_0 x6_1).f0.f3, (rd_T71 l0_0 x6_1).f0.f4, (rd_T71 l0_0 x6_1).f0.f5, (rd_T71 l0_0 x6_1).f0.f6, (rd_T71 l0_0 x6_1).f0.f7, (rd_T71 l0_0 x6_1).f0.f8, (rd_T71 l0_0 x6_1).f0.f9⟩ : S69) x7_3) : Int).toNat (wrap64 ((rd x4_3 (at69 (⟨(rd_T71 l0_0 x6_1).f0.f0, (rd_T71 l0_0 x6_1).f0.f1, (rd_T71 l0_0 x6_1).f0.f2, (rd_T71 l0_0 x6_1).f0.f3, (rd_T71 l0_0 x6_1).f0.f4, (rd_T71 l0_0 x6_1).f0.f5, (rd_T71 l0_0 x6_1).f0.f6, (rd_T71 l0_0 x6_1).f0.f7, (rd_T71 l0_0 x6_1).f0.f8, (rd_T71 l0_0 x6_1).f0.f9⟩ : S69) x7_3)) + 1))) := ⟨_, rfl⟩
                                          replace H : (if x6_1 < (x5_3.length : Int) then (if (at69 (⟨(rd_T71 l0_0 x6_1).f0.f0, (rd_T71 l0_0 x6_1).f0.f1, (rd_T71 l0_0 x6_1).f0.f2, (rd_T71 l0_0 x6_1).f0.f3, (rd_T71 l0_0 x6_1).f0.f4, (rd_T71 l0_0 x6_1).f0.f5, (rd_T71 l0_0 x6_1).f0.f6, (rd_T71 l0_0 x6_1).f0.f7, (rd_T71 l0_0 x6_1).f0.f8, (rd_T71 l0_0 x6_1).f0.f9⟩ : S69) x7_3) < (x5_3.length : Int) then (crossbarref07_valid.l1 k3 (l0_0.length : Int) y113 (x5_3.set ((at69 (⟨(rd_T71 l0_0 x6_1).f0.f0, (rd_T71 l0_0 x6_1).f0.f1, (rd_T71 l0_0 x6_1).f0.f2, (rd_T71 l0_0 x6_1).f0.f3, (rd_T71 l0_0 x6_1).f0.f4, (rd_T71 l0_0 x6_1).f0.f5, (rd_T71 l0_0 x6_1).f0.f6, (rd_T71 l0_0 x6_1).f0.f7, (rd_T71 l0_0 x6_1).f0.f8, (rd_T71 l0_0 x6_1).f0.f9⟩ : S69) x7_3) : Int).toNat (wrap64 ((rd x5_3 x6_1) + 1))) x6_1 (wrap64 (x7_3 + 1)) l0_0) else (none)) else (none)) = some r := by first | (rw [hy113]; with_reducible exact H) | (have H2_ := (Option.bind_some _ _).symm.trans H; rw [hy113]; with_reducible exact H2_) | (have H2_ := (Option.bind_some _ _).symm.trans H; with_reducible exact H2_) | with_reducible exact H | (rw [hy113]; exact H) | exact H
                                          have Ny113 := Aside0.mk hy113
                                          clear hy113
                                          by_cases c35 : x6_1 < (x5_3.length : Int)
                                          · rw [if_pos c35] at H
                                            have c35b0 : decide (x6_1 < (x5_3.length : Int)) = true := decide_eq_true c35
                                            clear c35
                                            by_cases c36 : (at69 (⟨(rd_T71 l0_0 x6_1).f0.f0, (rd_T71 l0_0 x6_1).f0.f1, (rd_T71 l0_0 x6_1).f0.f2, (rd_T71 l0_0 x6_1).f0.f3, (rd_T71 l0_0 x6_1).f0.f4, (rd_T71 l0_0 x6_1).f0.f5, (rd_T71 l0_0 x6_1).f0.f6, (rd_T71 l0_0 x6_1).f0.f7, (rd_T71 l0_0 x6_1).f0.f8, (rd_T71 l0_0 x6_1).f0.f9⟩ : S69) x7_3) < (x5_3.length : Int)
                                            · rw [if_pos c36] at H
                                              have c36b0 : decide ((at69 (⟨(rd_T71 l0_0 x6_1).f0.f0, (rd_T71 l0_0 x6_1).f0.f1, (rd_T71 l0_0 x6_1).f0.f2, (rd_T71 l0_0 x6_1).f0.f3, (rd_T71 l0_0 x6_1).f0.f4, (rd_T71 l0_0 x6_1).f0.f5, (rd_T71 l0_0 x6_1).f0.f6, (rd_T71 l0_0 x6_1).f0.f7, (rd_T71 l0_0 x6_1).f0.f8, (rd_T71 l0_0 x6_1).f0.f9⟩ : S69) x7_3) < (x5_3.length : Int)) = true := decide_eq_true c36
                                              clear c36
                                              obtain ⟨y115, hy115⟩ : ∃ y_ : List Int, y_ = (x5_3.set ((at69 (⟨(rd_T71 l0_0 x6_1).f0.f0, (rd_T71 l0_0 x6_1).f0.f1, (rd_T71 l0_0 x6_1).f0.f2, (rd_T71 l0_0 x6_1).f0.f3, (rd_T71 l0_0 x6_1).f0.f4, (rd_T71 l0_0 x6_1).f0.f5, (rd_T71 l0_0 x6_1).f0.f6, (rd_T71 l0_0 x6_1).f0.f7, (rd_T71 l0_0 x6_1).f0.f8, (rd_T71 l0_0 x6_1).f0.f9⟩ : S69) x7_3) : Int).toNat (wrap64 ((rd x5_3 x6_1) + 1))) := ⟨_, rfl⟩
                                              replace H : (crossbarref07_valid.l1 k3 (l0_0.length : Int) y113 y115 x6_1 (wrap64 (x7_3 + 1)) l0_0) = some r := by first | (rw [hy115]; with_reducible exact H) | (have H2_ := (Option.bind_some _ _).symm.trans H; rw [hy115]; with_reducible exact H2_) | (have H2_ := (Option.bind_some _ _).symm.trans H; with_reducible exact H2_) | with_reducible exact H | (rw [hy115]; exact H) | exact H
                                              have Ny115 := Aside0.mk hy115
                                              clear hy115
                                              have H' := Aside0.mk H
                                              clear H
                                              have hcz38_0 : wr.cell? ⟨gb102, 0, none⟩ = some (.slice A0_0 l0_0.length c0_0) := (blk_cell BK102.out 0).trans rfl
                                              have hfz38_0 := blk_frozen BK102.out 0
                                              have p111 : 0 ≤ (x6_1 : Int) := of_decide_eq_true (by first | (with_reducible assumption) | assumption)
                                              have q111 : x6_1 < (l0_0.length : Int) := of_decide_eq_true (by first | (with_reducible assumption) | assumption)
                                              obtain ⟨ad111, e111, hx111_0, hx111_1, hx111_2, hx111_3, hx111_4, hx111_5, hx111_6, hx111_7, hx111_8, hx111_9, hx111_10⟩ := at_T71 HR0_0.out x6_1 p111 q111
                                              cases e111
                                              replace hx111_0 := (HB.out.cell (World.block_lt_of_cell? w _ hx111_0)).trans hx111_0
                                              replace hx111_1 := (HB.out.cell (World.block_lt_of_cell? w _ hx111_1)).trans hx111_1
                                              replace hx111_2 := (HB.out.cell (World.block_lt_of_cell? w _ hx111_2)).trans hx111_2
                                              replace hx111_3 := (HB.out.cell (World.block_lt_of_cell? w _ hx111_3)).trans hx111_3
                                              replace hx111_4 := (HB.out.cell (World.block_lt_of_cell? w _ hx111_4)).trans hx111_4
                                              replace hx111_5 := (HB.out.cell (World.block_lt_of_cell? w _ hx111_5)).trans hx111_5
                                              replace hx111_6 := (HB.out.cell (World.block_lt_of_cell? w _ hx111_6)).trans hx111_6
                                              replace hx111_7 := (HB.out.cell (World.block_lt_of_cell? w _ hx111_7)).trans hx111_7
                                              replace hx111_8 := (HB.out.cell (World.block_lt_of_cell? w _ hx111_8)).trans hx111_8
                                              replace hx111_9 := (HB.out.cell (World.block_lt_of_cell? w _ hx111_9)).trans hx111_9
                                              replace hx111_10 := (HB.out.cell (World.block_lt_of_cell? w _ hx111_10)).trans hx111_10
                                              replace p111 := eq_true p111
                                              replace q111 := eq_true q111
                                              have p25 : 0 ≤ (x7_3 : Int) := (by first | omega | exact of_decide_eq_true (by first | (with_reducible assumption) | assumption))
                                              have q25 : x7_3 < (10 : Int) := (by first | omega | exact of_decide_eq_true (by first | (with_reducible assumption) | assumption))
                                              have hx25_0 := cell_at69 p25 q25 hx111_0 hx111_1 hx111_2 hx111_3 hx111_4 hx111_5 hx111_6 hx111_7 hx111_8 hx111_9
                                              replace p25 := eq_true p25
                                              replace q25 := eq_true q25
                                              obtain ⟨Ao39, co39, eo39⟩ := Kd.R_slice HO_4.out
                                              subst eo39
                                              have p112 : 0 ≤ ((at69 (⟨(rd_T71 l0_0 x6_1).f0.f0, (rd_T71 l0_0 x6_1).f0.f1, (rd_T71 l0_0 x6_1).f0.f2, (rd_T71 l0_0 x6_1).f0.f3, (rd_T71 l0_0 x6_1).f0.f4, (rd_T71 l0_0 x6_1).f0.f5, (rd_T71 l0_0 x6_1).f0.f6, (rd_T71 l0_0 x6_1).f0.f7, (rd_T71 l0_0 x6_1).f0.f8, (rd_T71 l0_0 x6_1).f0.f9⟩ : S69) x7_3) : Int) := of_decide_eq_true (by first | (with_reducible assumption) | assumption)
                                              have q112 : (at69 (⟨(rd_T71 l0_0 x6_1).f0.f0, (rd_T71 l0_0 x6_1).f0.f1, (rd_T71 l0_0 x6_1).f0.f2, (rd_T71 l0_0 x6_1).f0.f3, (rd_T71 l0_0 x6_1).f0.f4, (rd_T71 l0_0 x6_1).f0.f5, (rd_T71 l0_0 x6_1).f0.f6, (rd_T71 l0_0 x6_1).f0.f7, (rd_T71 l0_0 x6_1).f0.f8, (rd_T71 l0_0 x6_1).f0.f9⟩ : S69) x7_3) < (x4_3.length : Int) := of_decide_eq_true (by first | (with_reducible assumption) | assumption)
                                              obtain ⟨ad112, e112, hx112_0⟩ := Kd.at_int (Kd.R_reads' HO_4.out).2.2 (at69 (⟨(rd_T71 l0_0 x6_1).f0.f0, (rd_T71 l0_0 x6_1).f0.f1, (rd_T71 l0_0 x6_1).f0.f2, (rd_T71 l0_0 x6_1).f0.f3, (rd_T71 l0_0 x6_1).f0.f4, (rd_T71 l0_0 x6_1).f0.f5, (rd_T71 l0_0 x6_1).f0.f6, (rd_T71 l0_0 x6_1).f0.f7, (rd_T71 l0_0 x6_1).f0.f8, (rd_T71 l0_0 x6_1).f0.f9⟩ : S69) x7_3) p112 q112
                                              cases e112
                                              replace p112 := eq_true p112
                                              replace q112 := eq_true q112
                                              have p34 : 0 ≤ ((at69 (⟨(rd_T71 l0_0 x6_1).f0.f0, (rd_T71 l0_0 x6_1).f0.f1, (rd_T71 l0_0 x6_1).f0.f2, (rd_T71 l0_0 x6_1).f0.f3, (rd_T71 l0_0 x6_1).f0.f4, (rd_T71 l0_0 x6_1).f0.f5, (rd_T71 l0_0 x6_1).f0.f6, (rd_T71 l0_0 x6_1).f0.f7, (rd_T71 l0_0 x6_1).f0.f8, (rd_T71 l0_0 x6_1).f0.f9⟩ : S69) x7_3) : Int) := of_decide_eq_true (by first | (with_reducible assumption) | assumption)
                                              have q34 : ((at69 (⟨(rd_T71 l0_0 x6_1).f0.f0, (rd_T71 l0_0 x6_1).f0.f1, (rd_T71 l0_0 x6_1).f0.f2, (rd_T71 l0_0 x6_1).f0.f3, (rd_T71 l0_0 x6_1).f0.f4, (rd_T71 l0_0 x6_1).f0.f5, (rd_T71 l0_0 x6_1).f0.f6, (rd_T71 l0_0 x6_1).f0.f7, (rd_T71 l0_0 x6_1).f0.f8, (rd_T71 l0_0 x6_1).f0.f9⟩ : S69) x7_3) : Int) < ((x4_3.length : Int) : Int) := of_decide_eq_true (by first | (with_reducible assumption) | assumption)
                                              obtain ⟨go34, co34, eo34, gb34, gl34, cl34, HG34⟩ := Kd.R_form HO_4.out (by omega)
                                              (first | cases eo34 | (injection eo34 with ea_ en_ ec_; (first | subst ea_ | (injection ea_ with ea_; subst ea_)); subst ec_; clear en_))
                                              have GB34 := Aside0.mk gb34
                                              have GG34 := Aside0.mk HG34
                                              clear gb34 gl34 HG34
                                              (first | simp only [add_plain] at hx112_0 | skip)
                                              obtain ⟨hx34_0, hf34_0⟩ := Kd.R_celln 0 HO_4.out ((at69 (⟨(rd_T71 l0_0 x6_1).f0.f0, (rd_T71 l0_0 x6_1).f0.f1, (rd_T71 l0_0 x6_1).f0.f2, (rd_T71 l0_0 x6_1).f0.f3, (rd_T71 l0_0 x6_1).f0.f4, (rd_T71 l0_0 x6_1).f0.f5, (rd_T71 l0_0 x6_1).f0.f6, (rd_T71 l0_0 x6_1).f0.f7, (rd_T71 l0_0 x6_1).f0.f8, (rd_T71 l0_0 x6_1).f0.f9⟩ : S69) x7_3) : Int) p34 q34
                                              replace p34 := eq_true p34
                                              replace q34 := eq_true q34
                                              have HP40 := Kd.R_putg HO_4.out ((at69 (⟨(rd_T71 l0_0 x6_1).f0.f0, (rd_T71 l0_0 x6_1).f0.f1, (rd_T71 l0_0 x6_1).f0.f2, (rd_T71 l0_0 x6_1).f0.f3, (rd_T71 l0_0 x6_1).f0.f4, (rd_T71 l0_0 x6_1).f0.f5, (rd_T71 l0_0 x6_1).f0.f6, (rd_T71 l0_0 x6_1).f0.f7, (rd_T71 l0_0 x6_1).f0.f8, (rd_T71 l0_0 x6_1).f0.f9⟩ : S69) x7_3) : Int) (wrap64 ((rd x4_3 (at69 (⟨(rd_T71 l0_0 x6_1).f0.f0, (rd_T71 l0_0 x6_1).f0.f1, (rd_T71 l0_0 x6_1).f0.f2, (rd_T71 l0_0 x6_1).f0.f3, (rd_T71 l0_0 x6_1).f0.f4, (rd_T71 l0_0 x6_1).f0.f5, (rd_T71 l0_0 x6_1).f0.f6, (rd_T71 l0_0 x6_1).f0.f7, (rd_T71 l0_0 x6_1).f0.f8, (rd_T71 l0_0 x6_1).f0.f9⟩ : S69) x7_3)) + 1))
                                              go_wp2_with (first | ((with_reducible refine gate_store (t := 3) (p := 69) rfl ?_); refine store_event (t := 3) (p := 69) (v := ?vo_w41) (w1 := (wr.setCell ⟨go34, ((at69 (⟨(rd_T71 l0_0 x6_1).f0.f0, (rd_T71 l0_0 x6_1).f0.f1, (rd_T71 l0_0 x6_1).f0.f2, (rd_T71 l0_0 x6_1).f0.f3, (rd_T71 l0_0 x6_1).f0.f4, (rd_T71 l0_0 x6_1).f0.f5, (rd_T71 l0_0 x6_1).f0.f6, (rd_T71 l0_0 x6_1).f0.f7, (rd_T71 l0_0 x6_1).f0.f8, (rd_T71 l0_0 x6_1).f0.f9⟩ : S69) x7_3) : Int).toNat, none⟩ (.int .i64 (wrap64 ((rd x4_3 (at69 (⟨(rd_T71 l0_0 x6_1).f0.f0, (rd_T71 l0_0 x6_1).f0.f1, (rd_T71 l0_0 x6_1).f0.f2, (rd_T71 l0_0 x6_1).f0.f3, (rd_T71 l0_0 x6_1).f0.f4, (rd_T71 l0_0 x6_1).f0.f5, (rd_T71 l0_0 x6_1).f0.f6, (rd_T71 l0_0 x6_1).f0.f7, (rd_T71 l0_0 x6_1).f0.f8, (rd_T71 l0_0 x6_1).f0.f9⟩ : S69) x7_3)) + 1))))) ?hg ?ho ?hn ?hr ?_; (case ho => rfl); (case hg => rfl); (case hn => rfl); (case hr => first | (go_simp; done) | (go_simp; rfl)); intro w41 hw; have hg : wr.grownBy w41 (some go34) := (by rw [hw]; exact HP40.2); have hp_ : Kd.R (Kd.int .i64) 3 w41 w.heap.size (fun k_ => some k_ ≠ (v107 : Value).ownBlock) (.slice (some ⟨go34, 0, none⟩) x4_3.length co39) y113 := (by rw [hw, Ny113.out]; exact HP40.1); clear HP40; have n0_ := Aside0.mk (hp_); have n1_ := Aside0.mk (Kd.R_after (v := (.slice (some ⟨go34, 0, none⟩) x4_3.length co39)) (v1 := (.slice (some ⟨go34, 0, none⟩) x4_3.length co39)) (ok := (fun _ => True)) (by (with_reducible repeat (first | apply Kd.R_alloc | apply Kd.R_drewN | apply Kd.R_drew)); exact Kd.R_mono HO_5.out (fun _ hk => ⟨trivial, hk⟩)) hg (.inl rfl)); have n2_ := Aside0.mk (blk_grown (g := gb102) (o := .cells #[.slice (some ad111) l0_0.length c0_0] 24 (0, 0)) (by (with_reducible repeat (first | refine blk_drewN ?_ _ | refine blk_drew ?_ | refine blk_alloc ?_ _)); exact BK102.out) hg (Kd.R_ne HO_4.out BK102.out (by decide))); have n3_ := Aside0.mk ((by rw [hw]; exact below_set (HB.out) GB34.out : Below w.heap.size w w41)); clear HO_4; clear HO_5; clear BK102; clear HB; have HO_4 := n0_; have HO_5 := n1_; have BK102 := n2_; have HB := n3_; clear n0_ n1_ n2_ n3_; clear hg hw hp_; obtain ⟨Ao42, co42, eo42⟩ := Kd.R_slice HO_5.out; subst eo42; have p114 : 0 ≤ (x6_1 : Int) := of_decide_eq_true (by first | (with_reducible assumption) | assumption); have q114 : x6_1 < (x5_3.length : Int) := of_decide_eq_true (by first | (with_reducible assumption) | assumption); obtain ⟨ad114, e114, hx114_0⟩ := Kd.at_int (Kd.R_reads' HO_5.out).2.2 x6_1 p114 q114; cases e114; replace p114 := eq_true p114; replace q114 := eq_true q114; have p37 : 0 ≤ ((at69 (⟨(rd_T71 l0_0 x6_1).f0.f0, (rd_T71 l0_0 x6_1).f0.f1, (rd_T71 l0_0 x6_1).f0.f2, (rd_T71 l0_0 x6_1).f0.f3, (rd_T71 l0_0 x6_1).f0.f4, (rd_T71 l0_0 x6_1).f0.f5, (rd_T71 l0_0 x6_1).f0.f6, (rd_T71 l0_0 x6_1).f0.f7, (rd_T71 l0_0 x6_1).f0.f8, (rd_T71 l0_0 x6_1).f0.f9⟩ : S69) x7_3) : Int) := of_decide_eq_true (by first | (with_reducible assumption) | assumption); have q37 : ((at69 (⟨(rd_T71 l0_0 x6_1).f0.f0, (rd_T71 l0_0 x6_1).f0.f1, (rd_T71 l0_0 x6_1).f0.f2, (rd_T71 l0_0 x6_1).f0.f3, (rd_T71 l0_0 x6_1).f0.f4, (rd_T71 l0_0 x6_1).f0.f5, (rd_T71 l0_0 x6_1).f0.f6, (rd_T71 l0_0 x6_1).f0.f7, (rd_T71 l0_0 x6_1).f0.f8, (rd_T71 l0_0 x6_1).f0.f9⟩ : S69) x7_3) : Int) < ((x5_3.length : Int) : Int) := of_decide_eq_true (by first | (with_reducible assumption) | assumption); obtain ⟨go37, co37, eo37, gb37, gl37, cl37, HG37⟩ := Kd.R_form HO_5.out (by omega); (first | cases eo37 | (injection eo37 with ea_ en_ ec_; (first | subst ea_ | (injection ea_ with ea_; subst ea_)); subst ec_; clear en_)); have GB37 := Aside0.mk gb37; have GG37 := Aside0.mk HG37; clear gb37 gl37 HG37; (first | simp only [add_plain] at hx114_0 | skip); obtain ⟨hx37_0, hf37_0⟩ := Kd.R_celln 0 HO_5.out ((at69 (⟨(rd_T71 l0_0 x6_1).f0.f0, (rd_T71 l0_0 x6_1).f0.f1, (rd_T71 l0_0 x6_1).f0.f2, (rd_T71 l0_0 x6_1).f0.f3, (rd_T71 l0_0 x6_1).f0.f4, (rd_T71 l0_0 x6_1).f0.f5, (rd_T71 l0_0 x6_1).f0.f6, (rd_T71 l0_0 x6_1).f0.f7, (rd_T71 l0_0 x6_1).f0.f8, (rd_T71 l0_0 x6_1).f0.f9⟩ : S69) x7_3) : Int) p37 q37; replace p37 := eq_true p37; replace q37 := eq_true q37; have n_ := Aside0.mk (Kd.R_mono (ok' := (fun k_ => some k_ ≠ (.slice (some ⟨go34, 0, none⟩) x4_3.length co39 : Value).ownBlock)) HO_5.out (fun k_ hk => hk.2)); clear HO_5; have HO_5 := n_; clear n_; obtain ⟨hy43_, hz43_⟩ := Kd.R_celln 0 HO_5.out ((at69 (⟨(rd_T71 l0_0 x6_1).f0.f0, (rd_T71 l0_0 x6_1).f0.f1, (rd_T71 l0_0 x6_1).f0.f2, (rd_T71 l0_0 x6_1).f0.f3, (rd_T71 l0_0 x6_1).f0.f4, (rd_T71 l0_0 x6_1).f0.f5, (rd_T71 l0_0 x6_1).f0.f6, (rd_T71 l0_0 x6_1).f0.f7, (rd_T71 l0_0 x6_1).f0.f8, (rd_T71 l0_0 x6_1).f0.f9⟩ : S69) x7_3) : Int) (of_decide_eq_true (by first | (with_reducible assumption) | assumption)) (of_decide_eq_true (by first | (with_reducible assumption) | assumption)); have HP43 := Kd.R_putg HO_5.out ((at69 (⟨(rd_T71 l0_0 x6_1).f0.f0, (rd_T71 l0_0 x6_1).f0.f1, (rd_T71 l0_0 x6_1).f0.f2, (rd_T71 l0_0 x6_1).f0.f3, (rd_T71 l0_0 x6_1).f0.f4, (rd_T71 l0_0 x6_1).f0.f5, (rd_T71 l0_0 x6_1).f0.f6, (rd_T71 l0_0 x6_1).f0.f7, (rd_T71 l0_0 x6_1).f0.f8, (rd_T71 l0_0 x6_1).f0.f9⟩ : S69) x7_3) : Int) (wrap64 ((rd x5_3 x6_1) + 1))) | ((with_reducible refine gate_store (t := 3) (p := 77) rfl ?_); refine store_event (t := 3) (p := 77) (v := ?vo_w44) (w1 := (w41.setCell ⟨go37, ((at69 (⟨(rd_T71 l0_0 x6_1).f0.f0, (rd_T71 l0_0 x6_1).f0.f1, (rd_T71 l0_0 x6_1).f0.f2, (rd_T71 l0_0 x6_1).f0.f3, (rd_T71 l0_0 x6_1).f0.f4, (rd_T71 l0_0 x6_1).f0.f5, (rd_T71 l0_0 x6_1).f0.f6, (rd_T71 l0_0 x6_1).f0.f7, (rd_T71 l0_0 x6_1).f0.f8, (rd_T71 l0_0 x6_1).f0.f9⟩ : S69) x7_3) : Int).toNat, none⟩ (.int .i64 (wrap64 ((rd x5_3 x6_1) + 1))))) ?hg ?ho ?hn ?hr ?_; (case ho => rfl); (case hg => rfl); (case hn => rfl); (case hr => first | (go_simp; done) | (go_simp; rfl)); intro w44 hw; have hg : w41.grownBy w44 (some go37) := (by rw [hw]; exact HP43.2); have hp_ : Kd.R (Kd.int .i64) 3 w44 w.heap.size (fun k_ => some k_ ≠ (.slice (some ⟨go34, 0, none⟩) x4_3.length co39 : Value).ownBlock) (.slice (some ⟨go37, 0, none⟩) x5_3.length co42) y115 := (by rw [hw, Ny115.out]; exact HP43.1); clear HP43; have n0_ := Aside0.mk (Kd.R_after (v := (.slice (some ⟨go37, 0, none⟩) x5_3.length co42)) (v1 := (.slice (some ⟨go37, 0, none⟩) x5_3.length co42)) (ok := (fun _ => True)) (by (with_reducible repeat (first | apply Kd.R_alloc | apply Kd.R_drewN | apply Kd.R_drew)); exact Kd.R_mono HO_4.out (fun _ hk => ⟨trivial, hk⟩)) hg (.inl rfl)); have n1_ := Aside0.mk (hp_); have n2_ := Aside0.mk (blk_grown (g := gb102) (o := .cells #[.slice (some ad111) l0_0.length c0_0] 24 (0, 0)) (by (with_reducible repeat (first | refine blk_drewN ?_ _ | refine blk_drew ?_ | refine blk_alloc ?_ _)); exact BK102.out) hg (Kd.R_ne HO_5.out BK102.out (by decide))); have n3_ := Aside0.mk ((by rw [hw]; exact below_set (HB.out) GB37.out : Below w.heap.size w w44)); clear HO_4; clear HO_5; clear BK102; clear HB; have HO_4 := n0_; have HO_5 := n1_; have BK102 := n2_; have HB := n3_; clear n0_ n1_ n2_ n3_; clear hg hw hp_))
                                              go_roundg k3
                                              case measure => have := HK1.out; have := HJ13.out; have := HK3.out; omega
                                              case rel => exact ⟨(y113), (y115), (wrap64 (x7_3 + 1)), (by first | rfl | (simp; done) | (simp [*]; done)), H', ⟨by have := HK1.out; have := HJ13.out; have := HK3.out; omega⟩, ⟨by (with_reducible repeat (first | apply Kd.R_alloc | apply Kd.R_drewN | apply Kd.R_drew)); exact Kd.R_mono HO_4.out (fun _ hk => hk.2)⟩, ⟨by (with_reducible repeat (first | apply Kd.R_alloc | apply Kd.R_drewN | apply Kd.R_drew)); exact HO_5.out⟩, ⟨by (with_reducible repeat (first | refine blk_drewN ?_ _ | refine blk_drew ?_ | refine blk_alloc ?_ _)); exact BK102.out⟩, ⟨by repeat (first | (with_reducible first | exact HB.out | apply below_alloc | apply pw_below_drewN | apply below_drew1 | refine below_set ?_ GE102.out) | exact HB.out)⟩⟩
                                            · rw [if_neg c36] at H
                                              exact absurd H (by simp)
                                          · rw [if_neg c35] at H
                                            exact absurd H (by simp)
                                        · rw [if_neg c33] at H
                                          exact absurd H (by simp)
                                      · rw [if_neg c32] at H
                                        exact absurd H (by simp)
                              · rw [if_neg c24] at H
                                exact absurd H (by simp)
                            · rw [if_neg c23] at H
                              exact absurd H (by simp)
                          · rw [if_neg c22] at H
                            exact absurd H (by simp)
                        · rw [if_neg c21] at H
                          have c21b0 : decide (x7_3 < 10) = false := decide_eq_false c21
                          clear c21
                          have H' := Aside0.mk H
                          clear H
                          go_wp2
                          go_roundg k3
                          case measure => have := HK1.out; have := HJ13.out; have := HK3.out; omega
                          case rel => exact ⟨(x4_3), (x5_3), (wrap64 (x6_1 + 1)), (by first | rfl | (simp; done) | (simp [*]; done)), H', ⟨by have := HK1.out; have := HJ13.out; have := HK3.out; omega⟩, ⟨by (with_reducible repeat (first | apply Kd.R_alloc | apply Kd.R_drewN | apply Kd.R_drew)); exact HO_4.out⟩, ⟨by (with_reducible repeat (first | apply Kd.R_alloc | apply Kd.R_drewN | apply Kd.R_drew)); exact HO_5.out⟩, ⟨by (with_reducible repeat (first | refine blk_drewN ?_ _ | refine blk_drew ?_ | refine blk_alloc ?_ _)); exact BK102.out⟩, ⟨by repeat (first | (with_reducible first | exact HB.out | apply below_alloc | apply pw_below_drewN | apply below_drew1 | refine below_set ?_ GE102.out) | exact HB.out)⟩⟩
            · rw [if_neg c13] at H
              have c13b0 : decide (x6_1 < (l0_0.length : Int)) = false := decide_eq_false c13
              clear c13
              have H' := Aside0.mk H
              clear H
              go_wp2
              go_loopg [9] k1 (fun kq v9 w' => ∃ (x9_2 : Int), v9 = .int .i64 x9_2 ∧ Aside0 (crossbarref07_valid.l2 kq (l0_0.length : Int) x4_1 x5_1 x9_2 = some r) ∧ Aside0 (kq ≤ k1) ∧ Aside0 (Kd.R (Kd.int .i64) 3 w' w.heap.size (fun k_ => some k_ ≠ (v107 : Value).ownBlock) v104 x4_1) ∧ Aside0 (Kd.R (Kd.int .i64) 3 w' w.heap.size (fun k_ => some k_ ≠ (v104 : Value).ownBlock) v107 x5_1) ∧ Aside0 (w'.heap[gb102]? = some (.cells #[(.slice A0_0 l0_0.length c0_0)] 24 (0, 0))) ∧ Aside0 (Below w.heap.size w w'))
              case atStart => exact ⟨(1), (by first | rfl | (simp; done) | (simp [*]; done)), H', ⟨Nat.le_refl _⟩, ⟨by (with_reducible repeat (first | apply Kd.R_alloc | apply Kd.R_drewN | apply Kd.R_drew)); exact HO_4.out⟩, ⟨by (with_reducible repeat (first | apply Kd.R_alloc | apply Kd.R_drewN | apply Kd.R_drew)); exact HO_5.out⟩, ⟨by (with_reducible repeat (first | refine blk_drewN ?_ _ | refine blk_drew ?_ | refine blk_alloc ?_ _)); exact BK102.out⟩, ⟨by repeat (first | (with_reducible first | exact HB.out | apply below_alloc | apply pw_below_drewN | apply below_drew1 | refine below_set ?_ GE102.out) | exact HB.out)⟩⟩
              case round =>
                clear H'
                try clear c1
                try clear p1
                try clear q1
                try clear hx1
                try clear c2
                try clear c2b0
                try clear c2b1
                try clear p2
                try clear q2
                try clear hx2
                try clear c3
                try clear p3
                try clear q3
                try clear hx3
                try clear hf3
                try clear c5
                try clear c5b0
                try clear c5b1
                try clear c6
                try clear c6b0
                try clear c6b1
                try clear p6
                try clear p10
                try clear q10
                try clear hx10
                try clear p11
                try clear q11
                try clear hx11
                try clear c13
                try clear c13b0
                try clear c15
                try clear c15b0
                try clear c16
                try clear c16b0
                try clear c17
                try clear c17b0
                try clear c20
                try clear c21
                try clear c21b0
                try clear c22
                try clear c22b0
                try clear c23
                try clear c23b0
                try clear c24
                try clear c24b0
                try clear p25
                try clear q25
                try clear hx25
                try clear c26
                try clear c26b0
                try clear c26b1
                try clear c28
                try clear c28b0
                try clear c30
                try clear c30b0
                try clear c32
                try clear c32b0
                try clear c33
                try clear c33b0
                try clear p34
                try clear q34
                try clear hx34
                try clear hf34
                try clear c35
                try clear c35b0
                try clear c36
                try clear c36b0
                try clear p37
                try clear q37
                try clear hx37
                try clear hf37
                try clear hcz18_0
                try clear hcz19_0
                try clear hcz27_0
                try clear hcz29_0
                try clear hcz31_0
                try clear hcz38_0
                try clear hcz4_0
                try clear hcz8_0
                try clear hfz18_0
                try clear hfz19_0
                try clear hfz27_0
                try clear hfz29_0
                try clear hfz31_0
                try clear hfz38_0
                try clear hfz4_0
                try clear hfz8_0
                try clear hx109_0
                try clear hx109_1
                try clear hx109_10
                try clear hx109_2
                try clear hx109_3
                try clear hx109_4
                try clear hx109_5
                try clear hx109_6
                try clear hx109_7
                try clear hx109_8
                try clear hx109_9
                try clear hx110_0
                try clear hx110_1
                try clear hx110_10
                try clear hx110_2
                try clear hx110_3
                try clear hx110_4
                try clear hx110_5
                try clear hx110_6
                try clear hx110_7
                try clear hx110_8
                try clear hx110_9
                try clear hx111_0
                try clear hx111_1
                try clear hx111_10
                try clear hx111_2
                try clear hx111_3
                try clear hx111_4
                try clear hx111_5
                try clear hx111_6
                try clear hx111_7
                try clear hx111_8
                try clear hx111_9
                try clear hx112_0
                try clear hx114_0
                try clear hx25_0
                try clear hx34_0
                try clear hx37_0
                try clear p1
                try clear p10
                try clear p109
                try clear p11
                try clear p110
                try clear p111
                try clear p112
                try clear p114
                try clear p2
                try clear p25
                try clear p34
                try clear p37
                try clear q1
                try clear q10
                try clear q109
                try clear q11
                try clear q110
                try clear q111
                try clear q112
                try clear q114
                try clear q25
                try clear q34
                try clear q37
                obtain ⟨x9_2, rfl, HA, HK2, HO_4, HO_5, BK102, HB⟩ := hrel
                cases gk with
                | zero => exact absurd HA.out (by simp [crossbarref07_valid.l2])
                | succ k2 =>
                  have H := HA.out
                  clear HA
                  simp only [crossbarref07_valid.l2] at H
                  by_cases c45 : x9_2 < (l0_0.length : Int)
                  · rw [if_pos c45] at H
                    have c45b0 : decide (x9_2 < (l0_0.length : Int)) = true := decide_eq_true c45
                    clear c45
                    by_cases c46 : 0 ≤ x9_2
                    · rw [if_pos c46] at H
                      have c46b0 : decide (0 ≤ x9_2) = true := decide_eq_true c46
                      clear c46
                      by_cases c47 : x9_2 < (x4_1.length : Int)
                      · rw [if_pos c47] at H
                        have c47b0 : decide (x9_2 < (x4_1.length : Int)) = true := decide_eq_true c47
                        clear c47
                        by_cases c48 : (rd x4_1 x9_2) = 1
                        · rw [if_pos c48] at H
                          have c48b0 : ((rd x4_1 x9_2) == 1) = true := beq_iff_eq.mpr c48
                          have c48b1 : ((rd x4_1 x9_2) != 1) = false := bne_eq_false_iff_eq.mpr c48
                          clear c48
                          by_cases c49 : x9_2 < (x5_1.length : Int)
                          · rw [if_pos c49] at H
                            have c49b0 : decide (x9_2 < (x5_1.length : Int)) = true := decide_eq_true c49
                            clear c49
                            by_cases c50 : (rd x5_1 x9_2) > 15
                            · rw [if_pos c50] at H
                              have c50b0 : decide (15 < (rd x5_1 x9_2)) = true := decide_eq_true c50
                              clear c50
                              obtain rfl := Option.some.inj H
                              obtain ⟨Ao51, co51, eo51⟩ := Kd.R_slice HO_4.out
                              subst eo51
                              have p116 : 0 ≤ (x9_2 : Int) := of_decide_eq_true (by first | (with_reducible assumption) | assumption)
                              have q116 : x9_2 < (x4_1.length : Int) := of_decide_eq_true (by first | (with_reducible assumption) | assumption)
                              obtain ⟨ad116, e116, hx116_0⟩ := Kd.at_int (Kd.R_reads' HO_4.out).2.2 x9_2 p116 q116
                              cases e116
                              replace p116 := eq_true p116
                              replace q116 := eq_true q116
                              obtain ⟨Ao52, co52, eo52⟩ := Kd.R_slice HO_5.out
                              subst eo52
                              have p117 : 0 ≤ (x9_2 : Int) := of_decide_eq_true (by first | (with_reducible assumption) | assumption)
                              have q117 : x9_2 < (x5_1.length : Int) := of_decide_eq_true (by first | (with_reducible assumption) | assumption)
                              obtain ⟨ad117, e117, hx117_0⟩ := Kd.at_int (Kd.R_reads' HO_5.out).2.2 x9_2 p117 q117
                              cases e117
                              replace p117 := eq_true p117
                              replace q117 := eq_true q117
                              go_wp2
                              go_ret
                              exact ⟨by first | rfl | (simp [errW_none, errW_some] <;> rfl) | (simp [*, errW_none, errW_some] <;> rfl), by repeat (first | (with_reducible first | exact HB.out | apply below_alloc | apply pw_below_drewN | apply below_drew1 | refine below_set ?_ GE102.out) | exact HB.out)⟩
                            · rw [if_neg c50] at H
                              have c50b0 : decide (15 < (rd x5_1 x9_2)) = false := decide_eq_false c50
                              clear c50
                              have H' := Aside0.mk H
                              clear H
                              obtain ⟨Ao53, co53, eo53⟩ := Kd.R_slice HO_4.out
                              subst eo53
                              have p116 : 0 ≤ (x9_2 : Int) := of_decide_eq_true (by first | (with_reducible assumption) | assumption)
                              have q116 : x9_2 < (x4_1.length : Int) := of_decide_eq_true (by first | (with_reducible assumption) | assumption)
                              obtain ⟨ad116, e116, hx116_0⟩ := Kd.at_int (Kd.R_reads' HO_4.out).2.2 x9_2 p116 q116
                              cases e116
                              replace p116 := eq_true p116
                              replace q116 := eq_true q116
                              obtain ⟨Ao54, co54, eo54⟩ := Kd.R_slice HO_5.out
                              subst eo54
                              have p117 : 0 ≤ (x9_2 : Int) := of_decide_eq_true (by first | (with_reducible assumption) | assumption)
                              have q117 : x9_2 < (x5_1.length : Int) := of_decide_eq_true (by first | (with_reducible assumption) | assumption)
                              obtain ⟨ad117, e117, hx117_0⟩ := Kd.at_int (Kd.R_reads' HO_5.out).2.2 x9_2 p117 q117
                              cases e117
                              replace p117 := eq_true p117
                              replace q117 := eq_true q117
                              go_wp2
                              go_roundg k2
                              case measure => have := HK1.out; have := HK2.out; omega
                              case rel => exact ⟨(wrap64 (x9_2 + 1)), (by first | rfl | (simp; done) | (simp [*]; done)), H', ⟨by have := HK1.out; have := HK2.out; omega⟩, ⟨by (with_reducible repeat (first | apply Kd.R_alloc | apply Kd.R_drewN | apply Kd.R_drew)); exact HO_4.out⟩, ⟨by (with_reducible repeat (first | apply Kd.R_alloc | apply Kd.R_drewN | apply Kd.R_drew)); exact HO_5.out⟩, ⟨by (with_reducible repeat (first | refine blk_drewN ?_ _ | refine blk_drew ?_ | refine blk_alloc ?_ _)); exact BK102.out⟩, ⟨by repeat (first | (with_reducible first | exact HB.out | apply below_alloc | apply pw_below_drewN | apply below_drew1 | refine below_set ?_ GE102.out) | exact HB.out)⟩⟩
                          · rw [if_neg c49] at H
                            exact absurd H (by simp)
                        · rw [if_neg c48] at H
                          have c48b0 : ((rd x4_1 x9_2) == 1) = false := beq_eq_false_iff_ne.mpr c48
                          have c48b1 : ((rd x4_1 x9_2) != 1) = true := bne_iff_ne.mpr c48
                          obtain rfl := Option.some.inj H
                          obtain ⟨Ao55, co55, eo55⟩ := Kd.R_slice HO_4.out
                          subst eo55
                          have p116 : 0 ≤ (x9_2 : Int) := of_decide_eq_true (by first | (with_reducible assumption) | assumption)
                          have q116 : x9_2 < (x4_1.length : Int) := of_decide_eq_true (by first | (with_reducible assumption) | assumption)
                          obtain ⟨ad116, e116, hx116_0⟩ := Kd.at_int (Kd.R_reads' HO_4.out).2.2 x9_2 p116 q116
                          cases e116
                          replace p116 := eq_true p116
                          replace q116 := eq_true q116
                          go_wp2
                          go_ret
                          exact ⟨by first | rfl | (simp [errW_none, errW_some] <;> rfl) | (simp [*, errW_none, errW_some] <;> rfl), by repeat (first | (with_reducible first | exact HB.out | apply below_alloc | apply pw_below_drewN | apply below_drew1 | refine below_set ?_ GE102.out) | exact HB.out)⟩
                      · rw [if_neg c47] at H
                        exact absurd H (by simp)
                    · rw [if_neg c46] at H
                      exact absurd H (by simp)
                  · rw [if_neg c45] at H
                    have c45b0 : decide (x9_2 < (l0_0.length : Int)) = false := decide_eq_false c45
                    clear c45
                    obtain rfl := Option.some.inj H
                    go_wp2
                    go_ret
                    exact ⟨by first | rfl | (simp [errW_none, errW_some] <;> rfl) | (simp [*, errW_none, errW_some] <;> rfl), by repeat (first | (with_reducible first | exact HB.out | apply below_alloc | apply pw_below_drewN | apply below_drew1 | refine below_set ?_ GE102.out) | exact HB.out)⟩
      · rw [if_neg c6] at H
        exact absurd H (by simp)
    · rw [if_neg c5] at H
      exact absurd H (by simp)
end Go.Proofs.YtmendieiikmbhaaDoor.Fn
