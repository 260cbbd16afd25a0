-- printed by a program of this session, out of the translation; Lean checks it
import Derived.Test.YthknfclhkmehgaaDoorFn0
import Derived.Test.YthknfclhkmehgaaDoorEAuto
namespace Go.Proofs.YthknfclhkmehgaaDoor.Fn
open Go.RowKit Go.Proofs.YthknfclhkmehgaaDoorW.PrintWords Go.Proofs.YthknfclhkmehgaaDoorW.PrintLast Go.Proofs.YthknfclhkmehgaaDoorW.PrintMore
attribute [local go_sem] max2_int min2_int max_two min_two max_three min_three max_four min_four   -- for this text's walks alone
set_option linter.unusedVariables false
set_option linter.unusedSimpArgs false

/-! ### trie_Check: function 43 -/
mutual
def trie_Check.l0 : Nat → List Int → List (S77) → Int → Int → List (S77) → Option (Int)
  | 0, _, _, _, _, _ => none
  | k + 1, x4, x23, x24, x25, x139000 => if x25 < x24 then (if 0 ≤ x25 then (if x25 < (x23.length : Int) then (if ((rd_T77 x23 x25).f1) < 0 then (trie_Check.j1 k x4 x25 x23 x24 x25 true x139000 ((rd_T77 x23 x25).f0.f0) ((rd_T77 x23 x25).f0.f1) ((rd_T77 x23 x25).f0.f2) ((rd_T77 x23 x25).f0.f3) ((rd_T77 x23 x25).f0.f4) ((rd_T77 x23 x25).f0.f5) ((rd_T77 x23 x25).f0.f6) ((rd_T77 x23 x25).f0.f7) ((rd_T77 x23 x25).f0.f8) ((rd_T77 x23 x25).f0.f9) ((rd_T77 x23 x25).f1)) else (if ((rd_T77 x23 x25).f1) > 1099511627776 then (trie_Check.j1 k x4 x25 x23 x24 x25 true x139000 ((rd_T77 x23 x25).f0.f0) ((rd_T77 x23 x25).f0.f1) ((rd_T77 x23 x25).f0.f2) ((rd_T77 x23 x25).f0.f3) ((rd_T77 x23 x25).f0.f4) ((rd_T77 x23 x25).f0.f5) ((rd_T77 x23 x25).f0.f6) ((rd_T77 x23 x25).f0.f7) ((rd_T77 x23 x25).f0.f8) ((rd_T77 x23 x25).f0.f9) ((rd_T77 x23 x25).f1)) else (if x25 > 0 then (if x25 < (x4.length : Int) then (trie_Check.j1 k x4 x25 x23 x24 x25 ((rd x4 x25) == 0) x139000 ((rd_T77 x23 x25).f0.f0) ((rd_T77 x23 x25).f0.f1) ((rd_T77 x23 x25).f0.f2) ((rd_T77 x23 x25).f0.f3) ((rd_T77 x23 x25).f0.f4) ((rd_T77 x23 x25).f0.f5) ((rd_T77 x23 x25).f0.f6) ((rd_T77 x23 x25).f0.f7) ((rd_T77 x23 x25).f0.f8) ((rd_T77 x23 x25).f0.f9) ((rd_T77 x23 x25).f1)) else (none)) else (trie_Check.j1 k x4 x25 x23 x24 x25 false x139000 ((rd_T77 x23 x25).f0.f0) ((rd_T77 x23 x25).f0.f1) ((rd_T77 x23 x25).f0.f2) ((rd_T77 x23 x25).f0.f3) ((rd_T77 x23 x25).f0.f4) ((rd_T77 x23 x25).f0.f5) ((rd_T77 x23 x25).f0.f6) ((rd_T77 x23 x25).f0.f7) ((rd_T77 x23 x25).f0.f8) ((rd_T77 x23 x25).f0.f9) ((rd_T77 x23 x25).f1))))) else (none)) else (none)) else (some 0)
def trie_Check.j1 : Nat → List Int → Int → List (S77) → Int → Int → Bool → List (S77) → Int → Int → Int → Int → Int → Int → Int → Int → Int → Int → Int → Option (Int)
  | 0, _, _, _, _, _, _, _, _, _, _, _, _, _, _, _, _, _, _ => none
  | k + 1, x4, x5, x23, x24, x25, x48, x139000, x144000, x144001, x144002, x144003, x144004, x144005, x144006, x144007, x144008, x144009, x144010 => if x48 = true then (some 1) else (trie_Check.l1 k x4 x5 x23 x24 x25 0 x144000 x144001 x144002 x144003 x144004 x144005 x144006 x144007 x144008 x144009 x139000)
def trie_Check.l1 : Nat → List Int → Int → List (S77) → Int → Int → Int → Int → Int → Int → Int → Int → Int → Int → Int → Int → Int → List (S77) → Option (Int)
  | 0, _, _, _, _, _, _, _, _, _, _, _, _, _, _, _, _, _ => none
  | k + 1, x4, x5, x23, x24, x25, x51, x900, x901, x902, x903, x904, x905, x906, x907, x908, x909, x139000 => if x51 < 10 then (if 0 ≤ x51 then (if (at75 (⟨x900, x901, x902, x903, x904, x905, x906, x907, x908, x909⟩ : S75) x51) = 0 then (trie_Check.l1 k x4 x5 x23 x24 x25 (wrap64 (x51 + 1)) x900 x901 x902 x903 x904 x905 x906 x907 x908 x909 x139000) else (if (at75 (⟨x900, x901, x902, x903, x904, x905, x906, x907, x908, x909⟩ : S75) x51) ≤ x5 then (some 1) else (if (at75 (⟨x900, x901, x902, x903, x904, x905, x906, x907, x908, x909⟩ : S75) x51) ≥ (x139000.length : Int) then (some 1) else (if 0 ≤ (at75 (⟨x900, x901, x902, x903, x904, x905, x906, x907, x908, x909⟩ : S75) x51) then (if (at75 (⟨x900, x901, x902, x903, x904, x905, x906, x907, x908, x909⟩ : S75) x51) < (x4.length : Int) then (if (rd x4 (at75 (⟨x900, x901, x902, x903, x904, x905, x906, x907, x908, x909⟩ : S75) x51)) > 0 then (some 1) else (if 0 ≤ x5 then (if x5 < (x4.length : Int) then (if (rd x4 x5) = 15 then (some 1) else (trie_Check.l1 k (x4.set ((at75 (⟨x900, x901, x902, x903, x904, x905, x906, x907, x908, x909⟩ : S75) x51) : Int).toNat (wrap64 ((rd x4 x5) + 1))) x5 x23 x24 x25 (wrap64 (x51 + 1)) x900 x901 x902 x903 x904 x905 x906 x907 x908 x909 x139000)) else (none)) else (none))) else (none)) else (none))))) else (none)) else (trie_Check.l0 k x4 x23 x24 (wrap64 (x25 + 1)) x139000)
end
def trie_Check.f (k : Nat) (l0_0 : List (S77)) : Option (Int) := if (l0_0.length : Int) > 4096 then (some 2) else (if (l0_0.length : Int) = 0 then (some 1) else (if 0 ≤ (l0_0.length : Int) then (if ((l0_0.length : Int) : Int).toNat ≤ 35184372088832 then (trie_Check.l0 k (List.replicate ((l0_0.length : Int) : Int).toNat 0) l0_0 (l0_0.length : Int) 0 l0_0) else (none)) else (none)))
theorem trie_Check.mono_l : ∀ k, (∀ y0 y1 y2 y3 y4, LeO (trie_Check.l0 k y0 y1 y2 y3 y4) (trie_Check.l0 (k + 1) y0 y1 y2 y3 y4)) ∧ (∀ y0 y1 y2 y3 y4 y5 y6 y7 y8 y9 y10 y11 y12 y13 y14 y15 y16 y17, LeO (trie_Check.j1 k y0 y1 y2 y3 y4 y5 y6 y7 y8 y9 y10 y11 y12 y13 y14 y15 y16 y17) (trie_Check.j1 (k + 1) y0 y1 y2 y3 y4 y5 y6 y7 y8 y9 y10 y11 y12 y13 y14 y15 y16 y17)) ∧ (∀ y0 y1 y2 y3 y4 y5 y6 y7 y8 y9 y10 y11 y12 y13 y14 y15 y16, LeO (trie_Check.l1 k y0 y1 y2 y3 y4 y5 y6 y7 y8 y9 y10 y11 y12 y13 y14 y15 y16) (trie_Check.l1 (k + 1) y0 y1 y2 y3 y4 y5 y6 y7 y8 y9 y10 y11 y12 y13 y14 y15 y16))
  | 0 => ⟨fun _ _ _ _ _ r h => by simp [trie_Check.l0] at h, fun _ _ _ _ _ _ _ _ _ _ _ _ _ _ _ _ _ _ r h => by simp [trie_Check.j1] at h, fun _ _ _ _ _ _ _ _ _ _ _ _ _ _ _ _ _ r h => by simp [trie_Check.l1] at h⟩
  | k + 1 => by
    obtain ⟨ih0, ih1, ih2⟩ := trie_Check.mono_l k
    refine ⟨?_, ?_, ?_⟩
    · intro y0 y1 y2 y3 y4
      unfold trie_Check.l0
      repeat' first
      | (with_reducible exact ih0 _ _ _ _ _)
      | (with_reducible exact ih1 _ _ _ _ _ _ _ _ _ _ _ _ _ _ _ _ _ _)
      | (with_reducible exact ih2 _ _ _ _ _ _ _ _ _ _ _ _ _ _ _ _ _)
      | (with_reducible exact LeO.refl _)
      | (with_reducible exact LeO.none _)
      | (with_reducible refine LeO.ite ?_ ?_)
      | (with_reducible refine LeO.bind ?_ (fun _ => ?_))
      | exact ih0 _ _ _ _ _
      | exact ih1 _ _ _ _ _ _ _ _ _ _ _ _ _ _ _ _ _ _
      | exact ih2 _ _ _ _ _ _ _ _ _ _ _ _ _ _ _ _ _
      | exact LeO.none _
      | refine LeO.ite ?_ ?_
      | refine LeO.bind ?_ (fun _ => ?_)
    · intro y0 y1 y2 y3 y4 y5 y6 y7 y8 y9 y10 y11 y12 y13 y14 y15 y16 y17
      unfold trie_Check.j1
      repeat' first
      | (with_reducible exact ih0 _ _ _ _ _)
      | (with_reducible exact ih1 _ _ _ _ _ _ _ _ _ _ _ _ _ _ _ _ _ _)
      | (with_reducible exact ih2 _ _ _ _ _ _ _ _ _ _ _ _ _ _ _ _ _)
      | (with_reducible exact LeO.refl _)
      | (with_reducible exact LeO.none _)
      | (with_reducible refine LeO.ite ?_ ?_)
      | (with_reducible refine LeO.bind ?_ (fun _ => ?_))
      | exact ih0 _ _ _ _ _
      | exact ih1 _ _ _ _ _ _ _ _ _ _ _ _ _ _ _ _ _ _
      | exact ih2 _ _ _ _ _ _ _ _ _ _ _ _ _ _ _ _ _
      | exact LeO.none _
      | refine LeO.ite ?_ ?_
      | refine LeO.bind ?_ (fun _ => ?_)
    · intro y0 y1 y2 y3 y4 y5 y6 y7 y8 y9 y10 y11 y12 y13 y14 y15 y16
      unfold trie_Check.l1
      repeat' first
      | (with_reducible exact ih0 _ _ _ _ _)
      | (with_reducible exact ih1 _ _ _ _ _ _ _ _ _ _ _ _ _ _ _ _ _ _)
      | (with_reducible exact ih2 _ _ _ _ _ _ _ _ _ _ _ _ _ _ _ _ _)
      | (with_reducible exact LeO.refl _)
      | (with_reducible exact LeO.none _)
      | (with_reducible refine LeO.ite ?_ ?_)
      | (with_reducible refine LeO.bind ?_ (fun _ => ?_))
      | exact ih0 _ _ _ _ _
      | exact ih1 _ _ _ _ _ _ _ _ _ _ _ _ _ _ _ _ _ _
      | exact ih2 _ _ _ _ _ _ _ _ _ _ _ _ _ _ _ _ _
      | exact LeO.none _
      | refine LeO.ite ?_ ?_
      | refine LeO.bind ?_ (fun _ => ?_)
theorem trie_Check.mono : ∀ a0 k, LeO (trie_Check.f k a0) (trie_Check.f (k + 1) a0) := by
  intro a0 k
  obtain ⟨ih0, ih1, ih2⟩ := trie_Check.mono_l k
  unfold trie_Check.f
  repeat' first
      | (with_reducible exact ih0 _ _ _ _ _)
      | (with_reducible exact ih1 _ _ _ _ _ _ _ _ _ _ _ _ _ _ _ _ _ _)
      | (with_reducible exact ih2 _ _ _ _ _ _ _ _ _ _ _ _ _ _ _ _ _)
      | (with_reducible exact LeO.refl _)
      | (with_reducible exact LeO.none _)
      | (with_reducible refine LeO.ite ?_ ?_)
      | (with_reducible refine LeO.bind ?_ (fun _ => ?_))
      | exact ih0 _ _ _ _ _
      | exact ih1 _ _ _ _ _ _ _ _ _ _ _ _ _ _ _ _ _ _
      | exact ih2 _ _ _ _ _ _ _ _ _ _ _ _ _ _ _ _ _
      | exact LeO.none _
      | refine LeO.ite ?_ ?_
      | refine LeO.bind ?_ (fun _ => ?_)
set_option maxHeartbeats 8000000 in
set_option maxRecDepth 100000 in
theorem trie_Check.calls (k : Nat) (A0_0 : Option Addr) (c0_0 : Nat) (l0_0 : List (S77)) (r : Int) (w : World) (hr0_0 : Kd.C k77 w A0_0 l0_0.length l0_0) (hc0_0 : l0_0.length ≤ c0_0) (h : trie_Check.f k l0_0 = some r) :
    Calls Tryd.prog 43 #[.agg #[.slice A0_0 l0_0.length c0_0]] w fun e w' => e = .returned (.int .i64 r) ∧ Below w.heap.size w w' := by
  have hu32 := Tryd.underlying32
  have hu77 := Tryd.underlying77
  have hu75 := Tryd.underlying75
  have HR0_0 := Aside0.mk hr0_0
  have HC0_0 := Aside0.mk hc0_0
  clear hr0_0 hc0_0
  have HB := Aside0.mk (Below.refl w.heap.size w)
  have H : (if (l0_0.length : Int) > 4096 then (some 2) else (if (l0_0.length : Int) = 0 then (some 1) else (if 0 ≤ (l0_0.length : Int) then (if ((l0_0.length : Int) : Int).toNat ≤ 35184372088832 then (trie_Check.l0 k (List.replicate ((l0_0.length : Int) : Int).toNat 0) l0_0 (l0_0.length : Int) 0 l0_0) else (none)) else (none)))) = some r := h
  clear h
  by_cases c2 : (l0_0.length : Int) > 4096
  · rw [if_pos c2] at H
    have c2b0 : decide (4096 < (l0_0.length : Int)) = true := decide_eq_true c2
    have c2b1 : decide (4096 < l0_0.length) = true := decide_eq_true (by omega)
    clear c2
    obtain rfl := Option.some.inj H
    go_enter Tryd.func43, Tryd.ntmps43
    go_wp2_with (first | ((with_reducible refine gate_dst (N := 1) rfl ?_); (try (refine gate_guard (by rfl) ?_; dsimp only)); refine box_event ?hg (N := 1) ?hd (cs := #[.slice A0_0 l0_0.length c0_0]) (t := 32) ?hr ?_; (case hd => rfl); (case hg => rfl); (case hr => exact gs_); intro gb138 hg w3 hbox hb; have n0_ := Aside0.mk (below_step hb_ hb); have n1_ := Aside0.mk (hbox); have n2_ := Aside0.mk ((by rw [hg]; exact (below_size hb_) : w.heap.size ≤ gb138)); have n3_ := n2_; clear HB; have HB := n0_; have BK138 := n1_; have GW138 := n2_; have GE138 := n3_; clear n0_ n1_ n2_ n3_; clear hb hbox hg; obtain ⟨hcz4_0, hfz4_0⟩ := bx1 BK138))
    go_ret
    exact ⟨er_, hb_⟩
  · rw [if_neg c2] at H
    have c2b0 : decide (4096 < (l0_0.length : Int)) = false := decide_eq_false c2
    have c2b1 : decide (4096 < l0_0.length) = false := decide_eq_false (by omega)
    clear c2
    by_cases c5 : (l0_0.length : Int) = 0
    · rw [if_pos c5] at H
      have c5b0 : ((l0_0.length : Int) == 0) = true := beq_iff_eq.mpr c5
      have c5b1 : ((l0_0.length : Int) != 0) = false := bne_eq_false_iff_eq.mpr c5
      clear c5
      obtain rfl := Option.some.inj H
      go_enter Tryd.func43, Tryd.ntmps43
      go_wp2_with (first | ((with_reducible refine gate_dst (N := 1) rfl ?_); (try (refine gate_guard (by rfl) ?_; dsimp only)); refine box_event ?hg (N := 1) ?hd (cs := #[.slice A0_0 l0_0.length c0_0]) (t := 32) ?hr ?_; (case hd => rfl); (case hg => rfl); (case hr => exact gs_); intro gb138 hg w6 hbox hb; have n0_ := Aside0.mk (below_step hb_ hb); have n1_ := Aside0.mk (hbox); have n2_ := Aside0.mk ((by rw [hg]; exact (below_size hb_) : w.heap.size ≤ gb138)); have n3_ := n2_; clear HB; have HB := n0_; have BK138 := n1_; have GW138 := n2_; have GE138 := n3_; clear n0_ n1_ n2_ n3_; clear hb hbox hg; obtain ⟨hcz7_0, hfz7_0⟩ := bx1 BK138))
      go_ret
      exact ⟨er_, hb_⟩
    · rw [if_neg c5] at H
      have c5b0 : ((l0_0.length : Int) == 0) = false := beq_eq_false_iff_ne.mpr c5
      have c5b1 : ((l0_0.length : Int) != 0) = true := bne_iff_ne.mpr c5
      have c5b2 : ¬ (l0_0 = []) := fun h_ => c5 (by rw [h_]; rfl)
      by_cases c8 : 0 ≤ (l0_0.length : Int)
      · rw [if_pos c8] at H
        have c8b0 := eq_true c8
        have c8b1 : decide (0 ≤ (l0_0.length : Int)) = true := decide_eq_true c8
        clear c8
        by_cases c9 : ((l0_0.length : Int) : Int).toNat ≤ 35184372088832
        · rw [if_pos c9] at H
          have c9b0 := eq_true c9
          have c9b1 : decide (((l0_0.length : Int) : Int).toNat ≤ 35184372088832) = true := decide_eq_true c9
          clear c9
          obtain ⟨y139, hy139⟩ : ∃ y_ : List Int, y_ = (List.replicate ((l0_0.length : Int) : Int).toNat 0) := ⟨_, rfl⟩
          replace H : (trie_Check.l0 k y139 l0_0 (l0_0.length : Int) 0 l0_0) = some r := by first | (rw [hy139]; with_reducible exact H) | (have H2_ := (Option.bind_some _ _).symm.trans H; rw [hy139]; with_reducible exact H2_) | (have H2_ := (Option.bind_some _ _).symm.trans H; with_reducible exact H2_) | with_reducible exact H | (rw [hy139]; exact H) | exact H
          have Ny139 := Aside0.mk hy139
          clear hy139
          have H' := Aside0.mk H
          clear H
          go_enter Tryd.func43, Tryd.ntmps43
          go_wp2_with (first | ((with_reducible refine gate_dst (N := 1) rfl ?_); (try (refine gate_guard (by rfl) ?_; dsimp only)); refine box_event ?hg (N := 1) ?hd (cs := #[.slice A0_0 l0_0.length c0_0]) (t := 32) ?hr ?_; (case hd => rfl); (case hg => rfl); (case hr => exact gs_); intro gb138 hg w10 hbox hb; have n0_ := Aside0.mk (below_step hb_ hb); have n1_ := Aside0.mk (hbox); have n2_ := Aside0.mk ((by rw [hg]; exact (below_size hb_) : w.heap.size ≤ gb138)); have n3_ := n2_; clear HB; have HB := n0_; have BK138 := n1_; have GW138 := n2_; have GE138 := n3_; clear n0_ n1_ n2_ n3_; clear hb hbox hg; obtain ⟨hcz11_0, hfz11_0⟩ := bx1 BK138) | ((with_reducible refine gate_dst (N := 21) rfl ?_); (try (refine gate_guard (by rfl) ?_; dsimp only)); refine Kd.R_make (Kd.int .i64) _ 3 rfl (N := 21) rfl 108 _ _ rfl (l0_0.length : Int) rfl rfl Tryd.underlying108 (.int .i64 0) 8 info3 rfl (by decide) (by omega) 0 (ok := fun _ => True) (okp := fun _ => True) rfl (fun _ hk => hk) trivial (dt_) (Nat.le_trans (Nat.mul_le_mul_right _ (dt_ : (l0_0.length : Int).toNat ≤ 35184372088832)) (by omega)) (Below.refl _ _) (Nat.le_refl _) ?_; intro v140 w12 ho13 hb hg_ hnew_; clear hg_ hnew_; (first | rw [← Ny139.out] at ho13 | (simp only [Int.reduceToNat] at ho13; rw [← Ny139.out] at ho13)); have n0_ := Aside0.mk (Kd.R_lower ho13 (below_size hb_)); have n1_ := Aside0.mk (blk_below (g := gb138) (o := .cells #[.slice A0_0 l0_0.length c0_0] 32 (0, 0)) bk_ hb); have n2_ := Aside0.mk (below_step hb_ hb); clear BK138; clear HB; have HO141 := n0_; have BK138 := n1_; have HB := n2_; clear n0_ n1_ n2_; clear hb ho13; obtain ⟨hcz14_0, hfz14_0⟩ := bx1 BK138))
          go_loopg [25] k (fun kq v25 w' => ∃ (x4_1 : List Int) (x25_1 : Int), v25 = .int .i64 x25_1 ∧ Aside0 (trie_Check.l0 kq x4_1 l0_0 (l0_0.length : Int) x25_1 l0_0 = some r) ∧ Aside0 (kq ≤ k) ∧ Aside0 (Kd.R (Kd.int .i64) 3 w' w.heap.size (fun _ => True) v140 x4_1) ∧ Aside0 (w'.heap[gb138]? = some (.cells #[(.slice A0_0 l0_0.length c0_0)] 32 (0, 0))) ∧ Aside0 (Below w.heap.size w w'))
          case atStart => exact ⟨(y139), (0), rf_, H', ⟨Nat.le_refl _⟩, ⟨ho_⟩, ⟨bk_⟩, ⟨hb_⟩⟩
          case round =>
            clear H'
            try clear c2
            try clear c2b0
            try clear c2b1
            try clear p2
            try clear c4
            try clear c5
            try clear c5b0
            try clear c5b1
            try clear c5b2
            try clear c8
            try clear c8b0
            try clear c8b1
            try clear c9
            try clear c9b0
            try clear c9b1
            obtain ⟨x4_1, x25_1, rfl, HA, HK1, HO_4, BK138, HB⟩ := hrel
            cases gk with
            | zero => exact absurd HA.out (by simp [trie_Check.l0])
            | succ k1 =>
              have H := HA.out
              clear HA
              simp only [trie_Check.l0] at H
              by_cases c15 : x25_1 < (l0_0.length : Int)
              · rw [if_pos c15] at H
                have c15b0 : decide (x25_1 < (l0_0.length : Int)) = true := decide_eq_true c15
                clear c15
                by_cases c16 : 0 ≤ x25_1
                · rw [if_pos c16] at H
                  have c16b0 : decide (0 ≤ x25_1) = true := decide_eq_true c16
                  clear c16
                  by_cases c17 : x25_1 < (l0_0.length : Int)
                  · rw [if_pos c17] at H
                    have c17b0 : decide (x25_1 < (l0_0.length : Int)) = true := decide_eq_true c17
                    clear c17
                    have HC18 := Aside0.mk H
                    clear H
                    have p142 : 0 ≤ (x25_1 : Int) := dt_
                    have q142 : x25_1 < (l0_0.length : Int) := dt_
                    obtain ⟨ad142, e142, hx142_0, hx142_1, hx142_2, hx142_3, hx142_4, hx142_5, hx142_6, hx142_7, hx142_8, hx142_9, hx142_10⟩ := at_T77 HR0_0.out x25_1 p142 q142
                    cases e142
                    replace hx142_0 := hc_ HB hx142_0
                    replace hx142_1 := hc_ HB hx142_1
                    replace hx142_2 := hc_ HB hx142_2
                    replace hx142_3 := hc_ HB hx142_3
                    replace hx142_4 := hc_ HB hx142_4
                    replace hx142_5 := hc_ HB hx142_5
                    replace hx142_6 := hc_ HB hx142_6
                    replace hx142_7 := hc_ HB hx142_7
                    replace hx142_8 := hc_ HB hx142_8
                    replace hx142_9 := hc_ HB hx142_9
                    replace hx142_10 := hc_ HB hx142_10
                    replace p142 := eq_true p142
                    replace q142 := eq_true q142
                    go_upto_region 10 with (first | ((with_reducible refine gate_dst (N := 6) rfl ?_); (try (refine gate_guard (by rfl) ?_; dsimp only)); refine box_event ?hg (N := 6) ?hd (cs := #[.int .i64 0, .int .i64 0, .int .i64 0, .int .i64 0, .int .i64 0, .int .i64 0, .int .i64 0, .int .i64 0, .int .i64 0, .int .i64 0, .int .i64 0]) (t := 77) ?hr ?_; (case hd => rfl); (case hg => rfl); (case hr => exact gs_); intro gb143 hg w19 hbox hb; have n0_ := Aside0.mk (Kd.R_below ho_ hb); have n1_ := Aside0.mk (blk_below (g := gb138) (o := .cells #[.slice (some ad142) l0_0.length c0_0] 32 (0, 0)) bk_ hb); have n2_ := Aside0.mk (below_step hb_ hb); have n3_ := Aside0.mk (hbox); have n4_ := Aside0.mk ((by rw [hg]; exact (below_size hb_) : w.heap.size ≤ gb143)); have n5_ := n4_; have n6_ := Aside0.mk ((by rw [hg]; exact Nat.ne_of_lt (blk_lt (g := gb138) (o := .cells #[.slice (some ad142) l0_0.length c0_0] 32 (0, 0)) bk_) : gb138 ≠ gb143)); have n7_ := Aside0.mk ((by rw [hg]; exact Nat.ne_of_gt (blk_lt (g := gb138) (o := .cells #[.slice (some ad142) l0_0.length c0_0] 32 (0, 0)) bk_) : gb143 ≠ gb138)); clear HO_4; clear BK138; clear HB; have HO_4 := n0_; have BK138 := n1_; have HB := n2_; have BK143 := n3_; have GW143 := n4_; have GE143 := n5_; have NB138_143 := n6_; have NB143_138 := n7_; clear n0_ n1_ n2_ n3_ n4_ n5_ n6_ n7_; clear hb hbox hg; have hnb20 := NB143_138.out; have hnc20 := NB138_143.out; obtain ⟨hcz21_0, hcz21_1, hcz21_2, hcz21_3, hcz21_4, hcz21_5, hcz21_6, hcz21_7, hcz21_8, hcz21_9, hcz21_10, hfz21_0, hfz21_1, hfz21_2, hfz21_3, hfz21_4, hfz21_5, hfz21_6, hfz21_7, hfz21_8, hfz21_9, hfz21_10⟩ := bx11 BK143))
                    (try simp only [Act.put, List.setIfInBounds_toArray, List.set_cons_zero, List.set_cons_succ])
                    go_cut [48] (fun v48 wc => ∃ (kq : Nat) (x48_17 : Bool), v48 = .bool x48_17 ∧ Aside0 (trie_Check.j1 kq x4_1 x25_1 l0_0 (l0_0.length : Int) x25_1 x48_17 l0_0 ((rd_T77 l0_0 x25_1).f0.f0) ((rd_T77 l0_0 x25_1).f0.f1) ((rd_T77 l0_0 x25_1).f0.f2) ((rd_T77 l0_0 x25_1).f0.f3) ((rd_T77 l0_0 x25_1).f0.f4) ((rd_T77 l0_0 x25_1).f0.f5) ((rd_T77 l0_0 x25_1).f0.f6) ((rd_T77 l0_0 x25_1).f0.f7) ((rd_T77 l0_0 x25_1).f0.f8) ((rd_T77 l0_0 x25_1).f0.f9) ((rd_T77 l0_0 x25_1).f1) = some r) ∧ Aside0 (kq ≤ k1) ∧ Aside0 (Kd.R (Kd.int .i64) 3 wc w.heap.size (fun _ => True) v140 x4_1) ∧ Aside0 (wc.heap[gb138]? = some (.cells #[(.slice (some ad142) l0_0.length c0_0)] 32 (0, 0))) ∧ Aside0 (wc.heap[gb143]? = some (.cells #[.int .i64 ((rd_T77 l0_0 x25_1).f0.f0), .int .i64 ((rd_T77 l0_0 x25_1).f0.f1), .int .i64 ((rd_T77 l0_0 x25_1).f0.f2), .int .i64 ((rd_T77 l0_0 x25_1).f0.f3), .int .i64 ((rd_T77 l0_0 x25_1).f0.f4), .int .i64 ((rd_T77 l0_0 x25_1).f0.f5), .int .i64 ((rd_T77 l0_0 x25_1).f0.f6), .int .i64 ((rd_T77 l0_0 x25_1).f0.f7), .int .i64 ((rd_T77 l0_0 x25_1).f0.f8), .int .i64 ((rd_T77 l0_0 x25_1).f0.f9), .int .i64 ((rd_T77 l0_0 x25_1).f1)] 77 (0, 0))) ∧ Aside0 (Below w.heap.size w wc))
                    case first =>
                      have H := HC18.out
                      clear HC18
                      by_cases c22 : ((rd_T77 l0_0 x25_1).f1) < 0
                      · rw [if_pos c22] at H
                        have c22b0 : decide (((rd_T77 l0_0 x25_1).f1) < 0) = true := decide_eq_true c22
                        clear c22
                        (first | rw [c22b0] | (simp only [i64_w, i32_w]; rw [c22b0]) | skip)
                        have H' := Aside0.mk H
                        clear H
                        have hnb23 := NB143_138.out
                        have hnc23 := NB138_143.out
                        obtain ⟨hcz24_0, hcz24_1, hcz24_2, hcz24_3, hcz24_4, hcz24_5, hcz24_6, hcz24_7, hcz24_8, hcz24_9, hcz24_10, hfz24_0, hfz24_1, hfz24_2, hfz24_3, hfz24_4, hfz24_5, hfz24_6, hfz24_7, hfz24_8, hfz24_9, hfz24_10⟩ := bx11 BK143
                        go_wp2
                        go_meet
                        case rel => exact ⟨_, (true), rf_, H', ⟨by have := HK1.out; first | omega | exact Nat.le_refl _⟩, ⟨by (with_reducible repeat (first | apply Kd.R_alloc | apply Kd.R_drewN | apply Kd.R_drew)); exact Kd.R_mono (Kd.R_far (p := ⟨gb143, 10, none⟩) (Kd.R_far (p := ⟨gb143, 9, none⟩) (Kd.R_far (p := ⟨gb143, 8, none⟩) (Kd.R_far (p := ⟨gb143, 7, none⟩) (Kd.R_far (p := ⟨gb143, 6, none⟩) (Kd.R_far (p := ⟨gb143, 5, none⟩) (Kd.R_far (p := ⟨gb143, 4, none⟩) (Kd.R_far (p := ⟨gb143, 3, none⟩) (Kd.R_far (p := ⟨gb143, 2, none⟩) (Kd.R_far (p := ⟨gb143, 1, none⟩) (Kd.R_far (p := ⟨gb143, 0, none⟩) (Kd.R_types HO_4.out BK143.out (by decide)) (fun _ hk => hk.2) (.int .i64 ((rd_T77 l0_0 x25_1).f0.f0))) (fun _ hk => hk.2) (.int .i64 ((rd_T77 l0_0 x25_1).f0.f1))) (fun _ hk => hk.2) (.int .i64 ((rd_T77 l0_0 x25_1).f0.f2))) (fun _ hk => hk.2) (.int .i64 ((rd_T77 l0_0 x25_1).f0.f3))) (fun _ hk => hk.2) (.int .i64 ((rd_T77 l0_0 x25_1).f0.f4))) (fun _ hk => hk.2) (.int .i64 ((rd_T77 l0_0 x25_1).f0.f5))) (fun _ hk => hk.2) (.int .i64 ((rd_T77 l0_0 x25_1).f0.f6))) (fun _ hk => hk.2) (.int .i64 ((rd_T77 l0_0 x25_1).f0.f7))) (fun _ hk => hk.2) (.int .i64 ((rd_T77 l0_0 x25_1).f0.f8))) (fun _ hk => hk.2) (.int .i64 ((rd_T77 l0_0 x25_1).f0.f9))) (fun _ hk => hk.2) (.int .i64 ((rd_T77 l0_0 x25_1).f1))) (fun _ hk => trivial)⟩, ⟨bk_⟩, ⟨by (with_reducible repeat (first | refine blk_drewN ?_ _ | refine blk_drew ?_ | refine blk_alloc ?_ _)); refine blk_put (cs := #[.int .i64 ((rd_T77 l0_0 x25_1).f0.f0), .int .i64 ((rd_T77 l0_0 x25_1).f0.f1), .int .i64 ((rd_T77 l0_0 x25_1).f0.f2), .int .i64 ((rd_T77 l0_0 x25_1).f0.f3), .int .i64 ((rd_T77 l0_0 x25_1).f0.f4), .int .i64 ((rd_T77 l0_0 x25_1).f0.f5), .int .i64 ((rd_T77 l0_0 x25_1).f0.f6), .int .i64 ((rd_T77 l0_0 x25_1).f0.f7), .int .i64 ((rd_T77 l0_0 x25_1).f0.f8), .int .i64 ((rd_T77 l0_0 x25_1).f0.f9), .int .i64 0]) ?_ 10 _ rfl; (with_reducible repeat (first | refine blk_drewN ?_ _ | refine blk_drew ?_ | refine blk_alloc ?_ _)); refine blk_put (cs := #[.int .i64 ((rd_T77 l0_0 x25_1).f0.f0), .int .i64 ((rd_T77 l0_0 x25_1).f0.f1), .int .i64 ((rd_T77 l0_0 x25_1).f0.f2), .int .i64 ((rd_T77 l0_0 x25_1).f0.f3), .int .i64 ((rd_T77 l0_0 x25_1).f0.f4), .int .i64 ((rd_T77 l0_0 x25_1).f0.f5), .int .i64 ((rd_T77 l0_0 x25_1).f0.f6), .int .i64 ((rd_T77 l0_0 x25_1).f0.f7), .int .i64 ((rd_T77 l0_0 x25_1).f0.f8), .int .i64 0, .int .i64 0]) ?_ 9 _ rfl; (with_reducible repeat (first | refine blk_drewN ?_ _ | refine blk_drew ?_ | refine blk_alloc ?_ _)); refine blk_put (cs := #[.int .i64 ((rd_T77 l0_0 x25_1).f0.f0), .int .i64 ((rd_T77 l0_0 x25_1).f0.f1), .int .i64 ((rd_T77 l0_0 x25_1).f0.f2), .int .i64 ((rd_T77 l0_0 x25_1).f0.f3), .int .i64 ((rd_T77 l0_0 x25_1).f0.f4), .int .i64 ((rd_T77 l0_0 x25_1).f0.f5), .int .i64 ((rd_T77 l0_0 x25_1).f0.f6), .int .i64 ((rd_T77 l0_0 x25_1).f0.f7), .int .i64 0, .int .i64 0, .int .i64 0]) ?_ 8 _ rfl; (with_reducible repeat (first | refine blk_drewN ?_ _ | refine blk_drew ?_ | refine blk_alloc ?_ _)); refine blk_put (cs := #[.int .i64 ((rd_T77 l0_0 x25_1).f0.f0), .int .i64 ((rd_T77 l0_0 x25_1).f0.f1), .int .i64 ((rd_T77 l0_0 x25_1).f0.f2), .int .i64 ((rd_T77 l0_0 x25_1).f0.f3), .int .i64 ((rd_T77 l0_0 x25_1).f0.f4), .int .i64 ((rd_T77 l0_0 x25_1).f0.f5), .int .i64 ((rd_T77 l0_0 x25_1).f0.f6), .int .i64 0, .int .i64 0, .int .i64 0, .int .i64 0]) ?_ 7 _ rfl; (with_reducible repeat (first | refine blk_drewN ?_ _ | refine blk_drew ?_ | refine blk_alloc ?_ _)); refine blk_put (cs := #[.int .i64 ((rd_T77 l0_0 x25_1).f0.f0), .int .i64 ((rd_T77 l0_0 x25_1).f0.f1), .int .i64 ((rd_T77 l0_0 x25_1).f0.f2), .int .i64 ((rd_T77 l0_0 x25_1).f0.f3), .int .i64 ((rd_T77 l0_0 x25_1).f0.f4), .int .i64 ((rd_T77 l0_0 x25_1).f0.f5), .int .i64 0, .int .i64 0, .int .i64 0, .int .i64 0, .int .i64 0]) ?_ 6 _ rfl; (with_reducible repeat (first | refine blk_drewN ?_ _ | refine blk_drew ?_ | refine blk_alloc ?_ _)); refine blk_put (cs := #[.int .i64 ((rd_T77 l0_0 x25_1).f0.f0), .int .i64 ((rd_T77 l0_0 x25_1).f0.f1), .int .i64 ((rd_T77 l0_0 x25_1).f0.f2), .int .i64 ((rd_T77 l0_0 x25_1).f0.f3), .int .i64 ((rd_T77 l0_0 x25_1).f0.f4), .int .i64 0, .int .i64 0, .int .i64 0, .int .i64 0, .int .i64 0, .int .i64 0]) ?_ 5 _ rfl; (with_reducible repeat (first | refine blk_drewN ?_ _ | refine blk_drew ?_ | refine blk_alloc ?_ _)); refine blk_put (cs := #[.int .i64 ((rd_T77 l0_0 x25_1).f0.f0), .int .i64 ((rd_T77 l0_0 x25_1).f0.f1), .int .i64 ((rd_T77 l0_0 x25_1).f0.f2), .int .i64 ((rd_T77 l0_0 x25_1).f0.f3), .int .i64 0, .int .i64 0, .int .i64 0, .int .i64 0, .int .i64 0, .int .i64 0, .int .i64 0]) ?_ 4 _ rfl; (with_reducible repeat (first | refine blk_drewN ?_ _ | refine blk_drew ?_ | refine blk_alloc ?_ _)); refine blk_put (cs := #[.int .i64 ((rd_T77 l0_0 x25_1).f0.f0), .int .i64 ((rd_T77 l0_0 x25_1).f0.f1), .int .i64 ((rd_T77 l0_0 x25_1).f0.f2), .int .i64 0, .int .i64 0, .int .i64 0, .int .i64 0, .int .i64 0, .int .i64 0, .int .i64 0, .int .i64 0]) ?_ 3 _ rfl; (with_reducible repeat (first | refine blk_drewN ?_ _ | refine blk_drew ?_ | refine blk_alloc ?_ _)); refine blk_put (cs := #[.int .i64 ((rd_T77 l0_0 x25_1).f0.f0), .int .i64 ((rd_T77 l0_0 x25_1).f0.f1), .int .i64 0, .int .i64 0, .int .i64 0, .int .i64 0, .int .i64 0, .int .i64 0, .int .i64 0, .int .i64 0, .int .i64 0]) ?_ 2 _ rfl; (with_reducible repeat (first | refine blk_drewN ?_ _ | refine blk_drew ?_ | refine blk_alloc ?_ _)); refine blk_put (cs := #[.int .i64 ((rd_T77 l0_0 x25_1).f0.f0), .int .i64 0, .int .i64 0, .int .i64 0, .int .i64 0, .int .i64 0, .int .i64 0, .int .i64 0, .int .i64 0, .int .i64 0, .int .i64 0]) ?_ 1 _ rfl; (with_reducible repeat (first | refine blk_drewN ?_ _ | refine blk_drew ?_ | refine blk_alloc ?_ _)); refine blk_put (cs := #[.int .i64 0, .int .i64 0, .int .i64 0, .int .i64 0, .int .i64 0, .int .i64 0, .int .i64 0, .int .i64 0, .int .i64 0, .int .i64 0, .int .i64 0]) ?_ 0 _ rfl; (with_reducible repeat (first | refine blk_drewN ?_ _ | refine blk_drew ?_ | refine blk_alloc ?_ _)); exact BK143.out⟩, ⟨hb_⟩⟩
                      · rw [if_neg c22] at H
                        have c22b0 : decide (((rd_T77 l0_0 x25_1).f1) < 0) = false := decide_eq_false c22
                        clear c22
                        (first | rw [c22b0] | (simp only [i64_w, i32_w]; rw [c22b0]) | skip)
                        by_cases c25 : ((rd_T77 l0_0 x25_1).f1) > 1099511627776
                        · rw [if_pos c25] at H
                          have c25b0 : decide (1099511627776 < ((rd_T77 l0_0 x25_1).f1)) = true := decide_eq_true c25
                          clear c25
                          have H' := Aside0.mk H
                          clear H
                          have hnb26 := NB143_138.out
                          have hnc26 := NB138_143.out
                          obtain ⟨hcz27_0, hcz27_1, hcz27_2, hcz27_3, hcz27_4, hcz27_5, hcz27_6, hcz27_7, hcz27_8, hcz27_9, hcz27_10, hfz27_0, hfz27_1, hfz27_2, hfz27_3, hfz27_4, hfz27_5, hfz27_6, hfz27_7, hfz27_8, hfz27_9, hfz27_10⟩ := bx11 BK143
                          go_wp2
                          go_meet
                          case rel => exact ⟨_, (true), rf_, H', ⟨by have := HK1.out; first | omega | exact Nat.le_refl _⟩, ⟨by (with_reducible repeat (first | apply Kd.R_alloc | apply Kd.R_drewN | apply Kd.R_drew)); exact Kd.R_mono (Kd.R_far (p := ⟨gb143, 10, none⟩) (Kd.R_far (p := ⟨gb143, 9, none⟩) (Kd.R_far (p := ⟨gb143, 8, none⟩) (Kd.R_far (p := ⟨gb143, 7, none⟩) (Kd.R_far (p := ⟨gb143, 6, none⟩) (Kd.R_far (p := ⟨gb143, 5, none⟩) (Kd.R_far (p := ⟨gb143, 4, none⟩) (Kd.R_far (p := ⟨gb143, 3, none⟩) (Kd.R_far (p := ⟨gb143, 2, none⟩) (Kd.R_far (p := ⟨gb143, 1, none⟩) (Kd.R_far (p := ⟨gb143, 0, none⟩) (Kd.R_types HO_4.out BK143.out (by decide)) (fun _ hk => hk.2) (.int .i64 ((rd_T77 l0_0 x25_1).f0.f0))) (fun _ hk => hk.2) (.int .i64 ((rd_T77 l0_0 x25_1).f0.f1))) (fun _ hk => hk.2) (.int .i64 ((rd_T77 l0_0 x25_1).f0.f2))) (fun _ hk => hk.2) (.int .i64 ((rd_T77 l0_0 x25_1).f0.f3))) (fun _ hk => hk.2) (.int .i64 ((rd_T77 l0_0 x25_1).f0.f4))) (fun _ hk => hk.2) (.int .i64 ((rd_T77 l0_0 x25_1).f0.f5))) (fun _ hk => hk.2) (.int .i64 ((rd_T77 l0_0 x25_1).f0.f6))) (fun _ hk => hk.2) (.int .i64 ((rd_T77 l0_0 x25_1).f0.f7))) (fun _ hk => hk.2) (.int .i64 ((rd_T77 l0_0 x25_1).f0.f8))) (fun _ hk => hk.2) (.int .i64 ((rd_T77 l0_0 x25_1).f0.f9))) (fun _ hk => hk.2) (.int .i64 ((rd_T77 l0_0 x25_1).f1))) (fun _ hk => trivial)⟩, ⟨bk_⟩, ⟨by (with_reducible repeat (first | refine blk_drewN ?_ _ | refine blk_drew ?_ | refine blk_alloc ?_ _)); refine blk_put (cs := #[.int .i64 ((rd_T77 l0_0 x25_1).f0.f0), .int .i64 ((rd_T77 l0_0 x25_1).f0.f1), .int .i64 ((rd_T77 l0_0 x25_1).f0.f2), .int .i64 ((rd_T77 l0_0 x25_1).f0.f3), .int .i64 ((rd_T77 l0_0 x25_1).f0.f4), .int .i64 ((rd_T77 l0_0 x25_1).f0.f5), .int .i64 ((rd_T77 l0_0 x25_1).f0.f6), .int .i64 ((rd_T77 l0_0 x25_1).f0.f7), .int .i64 ((rd_T77 l0_0 x25_1).f0.f8), .int .i64 ((rd_T77 l0_0 x25_1).f0.f9), .int .i64 0]) ?_ 10 _ rfl; (with_reducible repeat (first | refine blk_drewN ?_ _ | refine blk_drew ?_ | refine blk_alloc ?_ _)); refine blk_put (cs := #[.int .i64 ((rd_T77 l0_0 x25_1).f0.f0), .int .i64 ((rd_T77 l0_0 x25_1).f0.f1), .int .i64 ((rd_T77 l0_0 x25_1).f0.f2), .int .i64 ((rd_T77 l0_0 x25_1).f0.f3), .int .i64 ((rd_T77 l0_0 x25_1).f0.f4), .int .i64 ((rd_T77 l0_0 x25_1).f0.f5), .int .i64 ((rd_T77 l0_0 x25_1).f0.f6), .int .i64 ((rd_T77 l0_0 x25_1).f0.f7), .int .i64 ((rd_T77 l0_0 x25_1).f0.f8), .int .i64 0, .int .i64 0]) ?_ 9 _ rfl; (with_reducible repeat (first | refine blk_drewN ?_ _ | refine blk_drew ?_ | refine blk_alloc ?_ _)); refine blk_put (cs := #[.int .i64 ((rd_T77 l0_0 x25_1).f0.f0), .int .i64 ((rd_T77 l0_0 x25_1).f0.f1), .int .i64 ((rd_T77 l0_0 x25_1).f0.f2), .int .i64 ((rd_T77 l0_0 x25_1).f0.f3), .int .i64 ((rd_T77 l0_0 x25_1).f0.f4), .int .i64 ((rd_T77 l0_0 x25_1).f0.f5), .int .i64 ((rd_T77 l0_0 x25_1).f0.f6), .int .i64 ((rd_T77 l0_0 x25_1).f0.f7), .int .i64 0, .int .i64 0, .int .i64 0]) ?_ 8 _ rfl; (with_reducible repeat (first | refine blk_drewN ?_ _ | refine blk_drew ?_ | refine blk_alloc ?_ _)); refine blk_put (cs := #[.int .i64 ((rd_T77 l0_0 x25_1).f0.f0), .int .i64 ((rd_T77 l0_0 x25_1).f0.f1), .int .i64 ((rd_T77 l0_0 x25_1).f0.f2), .int .i64 ((rd_T77 l0_0 x25_1).f0.f3), .int .i64 ((rd_T77 l0_0 x25_1).f0.f4), .int .i64 ((rd_T77 l0_0 x25_1).f0.f5), .int .i64 ((rd_T77 l0_0 x25_1).f0.f6), .int .i64 0, .int .i64 0, .int .i64 0, .int .i64 0]) ?_ 7 _ rfl; (with_reducible repeat (first | refine blk_drewN ?_ _ | refine blk_drew ?_ | refine blk_alloc ?_ _)); refine blk_put (cs := #[.int .i64 ((rd_T77 l0_0 x25_1).f0.f0), .int .i64 ((rd_T77 l0_0 x25_1).f0.f1), .int .i64 ((rd_T77 l0_0 x25_1).f0.f2), .int .i64 ((rd_T77 l0_0 x25_1).f0.f3), .int .i64 ((rd_T77 l0_0 x25_1).f0.f4), .int .i64 ((rd_T77 l0_0 x25_1).f0.f5), .int .i64 0, .int .i64 0, .int .i64 0, .int .i64 0, .int .i64 0]) ?_ 6 _ rfl; (with_reducible repeat (first | refine blk_drewN ?_ _ | refine blk_drew ?_ | refine blk_alloc ?_ _)); refine blk_put (cs := #[.int .i64 ((rd_T77 l0_0 x25_1).f0.f0), .int .i64 ((rd_T77 l0_0 x25_1).f0.f1), .int .i64 ((rd_T77 l0_0 x25_1).f0.f2), .int .i64 ((rd_T77 l0_0 x25_1).f0.f3), .int .i64 ((rd_T77 l0_0 x25_1).f0.f4), .int .i64 0, .int .i64 0, .int .i64 0, .int .i64 0, .int .i64 0, .int .i64 0]) ?_ 5 _ rfl; (with_reducible repeat (first | refine blk_drewN ?_ _ | refine blk_drew ?_ | refine blk_alloc ?_ _)); refine blk_put (cs := #[.int .i64 ((rd_T77 l0_0 x25_1).f0.f0), .int .i64 ((rd_T77 l0_0 x25_1).f0.f1), .int .i64 ((rd_T77 l0_0 x25_1).f0.f2), .int .i64 ((rd_T77 l0_0 x25_1).f0.f3), .int .i64 0, .int .i64 0, .int .i64 0, .int .i64 0, .int .i64 0, .int .i64 0, .int .i64 0]) ?_ 4 _ rfl; (with_reducible repeat (first | refine blk_drewN ?_ _ | refine blk_drew ?_ | refine blk_alloc ?_ _)); refine blk_put (cs := #[.int .i64 ((rd_T77 l0_0 x25_1).f0.f0), .int .i64 ((rd_T77 l0_0 x25_1).f0.f1), .int .i64 ((rd_T77 l0_0 x25_1).f0.f2), .int .i64 0, .int .i64 0, .int .i64 0, .int .i64 0, .int .i64 0, .int .i64 0, .int .i64 0, .int .i64 0]) ?_ 3 _ rfl; (with_reducible repeat (first | refine blk_drewN ?_ _ | refine blk_drew ?_ | refine blk_alloc ?_ _)); refine blk_put (cs := #[.int .i64 ((rd_T77 l0_0 x25_1).f0.f0), .int .i64 ((rd_T77 l0_0 x25_1).f0.f1), .int .i64 0, .int .i64 0, .int .i64 0, .int .i64 0, .int .i64 0, .int .i64 0, .int .i64 0, .int .i64 0, .int .i64 0]) ?_ 2 _ rfl; (with_reducible repeat (first | refine blk_drewN ?_ _ | refine blk_drew ?_ | refine blk_alloc ?_ _)); refine blk_put (cs := #[.int .i64 ((rd_T77 l0_0 x25_1).f0.f0), .int .i64 0, .int .i64 0, .int .i64 0, .int .i64 0, .int .i64 0, .int .i64 0, .int .i64 0, .int .i64 0, .int .i64 0, .int .i64 0]) ?_ 1 _ rfl; (with_reducible repeat (first | refine blk_drewN ?_ _ | refine blk_drew ?_ | refine blk_alloc ?_ _)); refine blk_put (cs := #[.int .i64 0, .int .i64 0, .int .i64 0, .int .i64 0, .int .i64 0, .int .i64 0, .int .i64 0, .int .i64 0, .int .i64 0, .int .i64 0, .int .i64 0]) ?_ 0 _ rfl; (with_reducible repeat (first | refine blk_drewN ?_ _ | refine blk_drew ?_ | refine blk_alloc ?_ _)); exact BK143.out⟩, ⟨hb_⟩⟩
                        · rw [if_neg c25] at H
                          have c25b0 : decide (1099511627776 < ((rd_T77 l0_0 x25_1).f1)) = false := decide_eq_false c25
                          clear c25
                          by_cases c28 : x25_1 > 0
                          · rw [if_pos c28] at H
                            have c28b0 : decide (0 < x25_1) = true := decide_eq_true c28
                            clear c28
                            by_cases c29 : x25_1 < (x4_1.length : Int)
                            · rw [if_pos c29] at H
                              have c29b0 : decide (x25_1 < (x4_1.length : Int)) = true := decide_eq_true c29
                              clear c29
                              have H' := Aside0.mk H
                              clear H
                              have hnb30 := NB143_138.out
                              have hnc30 := NB138_143.out
                              obtain ⟨hcz31_0, hcz31_1, hcz31_2, hcz31_3, hcz31_4, hcz31_5, hcz31_6, hcz31_7, hcz31_8, hcz31_9, hcz31_10, hfz31_0, hfz31_1, hfz31_2, hfz31_3, hfz31_4, hfz31_5, hfz31_6, hfz31_7, hfz31_8, hfz31_9, hfz31_10⟩ := bx11 BK143
                              obtain ⟨Ao32, co32, eo32⟩ := Kd.R_slice HO_4.out
                              subst eo32
                              have p144 : 0 ≤ (x25_1 : Int) := dt_
                              have q144 : x25_1 < (x4_1.length : Int) := dt_
                              obtain ⟨ad144, e144, hx144_0⟩ := Kd.at_int (Kd.R_reads' HO_4.out).2.2 x25_1 p144 q144
                              cases e144
                              have hn144_0 : ad144.block ≠ gb143 := Kd.own_blk (Kd.R_ne HO_4.out BK143.out (by decide))
                              have hn144_1 : ad144.block ≠ gb143 := Kd.own_blk (Kd.R_ne HO_4.out BK143.out (by decide))
                              have hn144_2 : ad144.block ≠ gb143 := Kd.own_blk (Kd.R_ne HO_4.out BK143.out (by decide))
                              have hn144_3 : ad144.block ≠ gb143 := Kd.own_blk (Kd.R_ne HO_4.out BK143.out (by decide))
                              have hn144_4 : ad144.block ≠ gb143 := Kd.own_blk (Kd.R_ne HO_4.out BK143.out (by decide))
                              have hn144_5 : ad144.block ≠ gb143 := Kd.own_blk (Kd.R_ne HO_4.out BK143.out (by decide))
                              have hn144_6 : ad144.block ≠ gb143 := Kd.own_blk (Kd.R_ne HO_4.out BK143.out (by decide))
                              have hn144_7 : ad144.block ≠ gb143 := Kd.own_blk (Kd.R_ne HO_4.out BK143.out (by decide))
                              have hn144_8 : ad144.block ≠ gb143 := Kd.own_blk (Kd.R_ne HO_4.out BK143.out (by decide))
                              have hn144_9 : ad144.block ≠ gb143 := Kd.own_blk (Kd.R_ne HO_4.out BK143.out (by decide))
                              have hn144_10 : ad144.block ≠ gb143 := Kd.own_blk (Kd.R_ne HO_4.out BK143.out (by decide))
                              replace hx144_0 := (cell_far (p := ⟨gb143, 0, none⟩) fa_ (.int .i64 ((rd_T77 l0_0 x25_1).f0.f0))).trans hx144_0
                              replace hx144_0 := (cell_far (p := ⟨gb143, 1, none⟩) fa_ (.int .i64 ((rd_T77 l0_0 x25_1).f0.f1))).trans hx144_0
                              replace hx144_0 := (cell_far (p := ⟨gb143, 2, none⟩) fa_ (.int .i64 ((rd_T77 l0_0 x25_1).f0.f2))).trans hx144_0
                              replace hx144_0 := (cell_far (p := ⟨gb143, 3, none⟩) fa_ (.int .i64 ((rd_T77 l0_0 x25_1).f0.f3))).trans hx144_0
                              replace hx144_0 := (cell_far (p := ⟨gb143, 4, none⟩) fa_ (.int .i64 ((rd_T77 l0_0 x25_1).f0.f4))).trans hx144_0
                              replace hx144_0 := (cell_far (p := ⟨gb143, 5, none⟩) fa_ (.int .i64 ((rd_T77 l0_0 x25_1).f0.f5))).trans hx144_0
                              replace hx144_0 := (cell_far (p := ⟨gb143, 6, none⟩) fa_ (.int .i64 ((rd_T77 l0_0 x25_1).f0.f6))).trans hx144_0
                              replace hx144_0 := (cell_far (p := ⟨gb143, 7, none⟩) fa_ (.int .i64 ((rd_T77 l0_0 x25_1).f0.f7))).trans hx144_0
                              replace hx144_0 := (cell_far (p := ⟨gb143, 8, none⟩) fa_ (.int .i64 ((rd_T77 l0_0 x25_1).f0.f8))).trans hx144_0
                              replace hx144_0 := (cell_far (p := ⟨gb143, 9, none⟩) fa_ (.int .i64 ((rd_T77 l0_0 x25_1).f0.f9))).trans hx144_0
                              replace hx144_0 := (cell_far (p := ⟨gb143, 10, none⟩) fa_ (.int .i64 ((rd_T77 l0_0 x25_1).f1))).trans hx144_0
                              clear hn144_0
                              clear hn144_1
                              clear hn144_2
                              clear hn144_3
                              clear hn144_4
                              clear hn144_5
                              clear hn144_6
                              clear hn144_7
                              clear hn144_8
                              clear hn144_9
                              clear hn144_10
                              replace p144 := eq_true p144
                              replace q144 := eq_true q144
                              go_wp2
                              go_meet
                              case rel => exact ⟨_, (((rd x4_1 x25_1) == 0)), rf_, H', ⟨by have := HK1.out; first | omega | exact Nat.le_refl _⟩, ⟨by (with_reducible repeat (first | apply Kd.R_alloc | apply Kd.R_drewN | apply Kd.R_drew)); exact Kd.R_mono (Kd.R_far (p := ⟨gb143, 10, none⟩) (Kd.R_far (p := ⟨gb143, 9, none⟩) (Kd.R_far (p := ⟨gb143, 8, none⟩) (Kd.R_far (p := ⟨gb143, 7, none⟩) (Kd.R_far (p := ⟨gb143, 6, none⟩) (Kd.R_far (p := ⟨gb143, 5, none⟩) (Kd.R_far (p := ⟨gb143, 4, none⟩) (Kd.R_far (p := ⟨gb143, 3, none⟩) (Kd.R_far (p := ⟨gb143, 2, none⟩) (Kd.R_far (p := ⟨gb143, 1, none⟩) (Kd.R_far (p := ⟨gb143, 0, none⟩) (Kd.R_types HO_4.out BK143.out (by decide)) (fun _ hk => hk.2) (.int .i64 ((rd_T77 l0_0 x25_1).f0.f0))) (fun _ hk => hk.2) (.int .i64 ((rd_T77 l0_0 x25_1).f0.f1))) (fun _ hk => hk.2) (.int .i64 ((rd_T77 l0_0 x25_1).f0.f2))) (fun _ hk => hk.2) (.int .i64 ((rd_T77 l0_0 x25_1).f0.f3))) (fun _ hk => hk.2) (.int .i64 ((rd_T77 l0_0 x25_1).f0.f4))) (fun _ hk => hk.2) (.int .i64 ((rd_T77 l0_0 x25_1).f0.f5))) (fun _ hk => hk.2) (.int .i64 ((rd_T77 l0_0 x25_1).f0.f6))) (fun _ hk => hk.2) (.int .i64 ((rd_T77 l0_0 x25_1).f0.f7))) (fun _ hk => hk.2) (.int .i64 ((rd_T77 l0_0 x25_1).f0.f8))) (fun _ hk => hk.2) (.int .i64 ((rd_T77 l0_0 x25_1).f0.f9))) (fun _ hk => hk.2) (.int .i64 ((rd_T77 l0_0 x25_1).f1))) (fun _ hk => trivial)⟩, ⟨bk_⟩, ⟨by (with_reducible repeat (first | refine blk_drewN ?_ _ | refine blk_drew ?_ | refine blk_alloc ?_ _)); refine blk_put (cs := #[.int .i64 ((rd_T77 l0_0 x25_1).f0.f0), .int .i64 ((rd_T77 l0_0 x25_1).f0.f1), .int .i64 ((rd_T77 l0_0 x25_1).f0.f2), .int .i64 ((rd_T77 l0_0 x25_1).f0.f3), .int .i64 ((rd_T77 l0_0 x25_1).f0.f4), .int .i64 ((rd_T77 l0_0 x25_1).f0.f5), .int .i64 ((rd_T77 l0_0 x25_1).f0.f6), .int .i64 ((rd_T77 l0_0 x25_1).f0.f7), .int .i64 ((rd_T77 l0_0 x25_1).f0.f8), .int .i64 ((rd_T77 l0_0 x25_1).f0.f9), .int .i64 0]) ?_ 10 _ rfl; (with_reducible repeat (first | refine blk_drewN ?_ _ | refine blk_drew ?_ | refine blk_alloc ?_ _)); refine blk_put (cs := #[.int .i64 ((rd_T77 l0_0 x25_1).f0.f0), .int .i64 ((rd_T77 l0_0 x25_1).f0.f1), .int .i64 ((rd_T77 l0_0 x25_1).f0.f2), .int .i64 ((rd_T77 l0_0 x25_1).f0.f3), .int .i64 ((rd_T77 l0_0 x25_1).f0.f4), .int .i64 ((rd_T77 l0_0 x25_1).f0.f5), .int .i64 ((rd_T77 l0_0 x25_1).f0.f6), .int .i64 ((rd_T77 l0_0 x25_1).f0.f7), .int .i64 ((rd_T77 l0_0 x25_1).f0.f8), .int .i64 0, .int .i64 0]) ?_ 9 _ rfl; (with_reducible repeat (first | refine blk_drewN ?_ _ | refine blk_drew ?_ | refine blk_alloc ?_ _)); refine blk_put (cs := #[.int .i64 ((rd_T77 l0_0 x25_1).f0.f0), .int .i64 ((rd_T77 l0_0 x25_1).f0.f1), .int .i64 ((rd_T77 l0_0 x25_1).f0.f2), .int .i64 ((rd_T77 l0_0 x25_1).f0.f3), .int .i64 ((rd_T77 l0_0 x25_1).f0.f4), .int .i64 ((rd_T77 l0_0 x25_1).f0.f5), .int .i64 ((rd_T77 l0_0 x25_1).f0.f6), .int .i64 ((rd_T77 l0_0 x25_1).f0.f7), .int .i64 0, .int .i64 0, .int .i64 0]) ?_ 8 _ rfl; (with_reducible repeat (first | refine blk_drewN ?_ _ | refine blk_drew ?_ | refine blk_alloc ?_ _)); refine blk_put (cs := #[.int .i64 ((rd_T77 l0_0 x25_1).f0.f0), .int .i64 ((rd_T77 l0_0 x25_1).f0.f1), .int .i64 ((rd_T77 l0_0 x25_1).f0.f2), .int .i64 ((rd_T77 l0_0 x25_1).f0.f3), .int .i64 ((rd_T77 l0_0 x25_1).f0.f4), .int .i64 ((rd_T77 l0_0 x25_1).f0.f5), .int .i64 ((rd_T77 l0_0 x25_1).f0.f6), .int .i64 0, .int .i64 0, .int .i64 0, .int .i64 0]) ?_ 7 _ rfl; (with_reducible repeat (first | refine blk_drewN ?_ _ | refine blk_drew ?_ | refine blk_alloc ?_ _)); refine blk_put (cs := #[.int .i64 ((rd_T77 l0_0 x25_1).f0.f0), .int .i64 ((rd_T77 l0_0 x25_1).f0.f1), .int .i64 ((rd_T77 l0_0 x25_1).f0.f2), .int .i64 ((rd_T77 l0_0 x25_1).f0.f3), .int .i64 ((rd_T77 l0_0 x25_1).f0.f4), .int .i64 ((rd_T77 l0_0 x25_1).f0.f5), .int .i64 0, .int .i64 0, .int .i64 0, .int .i64 0, .int .i64 0]) ?_ 6 _ rfl; (with_reducible repeat (first | refine blk_drewN ?_ _ | refine blk_drew ?_ | refine blk_alloc ?_ _)); refine blk_put (cs := #[.int .i64 ((rd_T77 l0_0 x25_1).f0.f0), .int .i64 ((rd_T77 l0_0 x25_1).f0.f1), .int .i64 ((rd_T77 l0_0 x25_1).f0.f2), .int .i64 ((rd_T77 l0_0 x25_1).f0.f3), .int .i64 ((rd_T77 l0_0 x25_1).f0.f4), .int .i64 0, .int .i64 0, .int .i64 0, .int .i64 0, .int .i64 0, .int .i64 0]) ?_ 5 _ rfl; (with_reducible repeat (first | refine blk_drewN ?_ _ | refine blk_drew ?_ | refine blk_alloc ?_ _)); refine blk_put (cs := #[.int .i64 ((rd_T77 l0_0 x25_1).f0.f0), .int .i64 ((rd_T77 l0_0 x25_1).f0.f1), .int .i64 ((rd_T77 l0_0 x25_1).f0.f2), .int .i64 ((rd_T77 l0_0 x25_1).f0.f3), .int .i64 0, .int .i64 0, .int .i64 0, .int .i64 0, .int .i64 0, .int .i64 0, .int .i64 0]) ?_ 4 _ rfl; (with_reducible repeat (first | refine blk_drewN ?_ _ | refine blk_drew ?_ | refine blk_alloc ?_ _)); refine blk_put (cs := #[.int .i64 ((rd_T77 l0_0 x25_1).f0.f0), .int .i64 ((rd_T77 l0_0 x25_1).f0.f1), .int .i64 ((rd_T77 l0_0 x25_1).f0.f2), .int .i64 0, .int .i64 0, .int .i64 0, .int .i64 0, .int .i64 0, .int .i64 0, .int .i64 0, .int .i64 0]) ?_ 3 _ rfl; (with_reducible repeat (first | refine blk_drewN ?_ _ | refine blk_drew ?_ | refine blk_alloc ?_ _)); refine blk_put (cs := #[.int .i64 ((rd_T77 l0_0 x25_1).f0.f0), .int .i64 ((rd_T77 l0_0 x25_1).f0.f1), .int .i64 0, .int .i64 0, .int .i64 0, .int .i64 0, .int .i64 0, .int .i64 0, .int .i64 0, .int .i64 0, .int .i64 0]) ?_ 2 _ rfl; (with_reducible repeat (first | refine blk_drewN ?_ _ | refine blk_drew ?_ | refine blk_alloc ?_ _)); refine blk_put (cs := #[.int .i64 ((rd_T77 l0_0 x25_1).f0.f0), .int .i64 0, .int .i64 0, .int .i64 0, .int .i64 0, .int .i64 0, .int .i64 0, .int .i64 0, .int .i64 0, .int .i64 0, .int .i64 0]) ?_ 1 _ rfl; (with_reducible repeat (first | refine blk_drewN ?_ _ | refine blk_drew ?_ | refine blk_alloc ?_ _)); refine blk_put (cs := #[.int .i64 0, .int .i64 0, .int .i64 0, .int .i64 0, .int .i64 0, .int .i64 0, .int .i64 0, .int .i64 0, .int .i64 0, .int .i64 0, .int .i64 0]) ?_ 0 _ rfl; (with_reducible repeat (first | refine blk_drewN ?_ _ | refine blk_drew ?_ | refine blk_alloc ?_ _)); exact BK143.out⟩, ⟨hb_⟩⟩
                            · rw [if_neg c29] at H
                              exact absurd H (by simp)
                          · rw [if_neg c28] at H
                            have c28b0 : decide (0 < x25_1) = false := decide_eq_false c28
                            clear c28
                            have H' := Aside0.mk H
                            clear H
                            have hnb33 := NB143_138.out
                            have hnc33 := NB138_143.out
                            obtain ⟨hcz34_0, hcz34_1, hcz34_2, hcz34_3, hcz34_4, hcz34_5, hcz34_6, hcz34_7, hcz34_8, hcz34_9, hcz34_10, hfz34_0, hfz34_1, hfz34_2, hfz34_3, hfz34_4, hfz34_5, hfz34_6, hfz34_7, hfz34_8, hfz34_9, hfz34_10⟩ := bx11 BK143
                            go_wp2
                            go_meet
                            case rel => exact ⟨_, (false), rf_, H', ⟨by have := HK1.out; first | omega | exact Nat.le_refl _⟩, ⟨by (with_reducible repeat (first | apply Kd.R_alloc | apply Kd.R_drewN | apply Kd.R_drew)); exact Kd.R_mono (Kd.R_far (p := ⟨gb143, 10, none⟩) (Kd.R_far (p := ⟨gb143, 9, none⟩) (Kd.R_far (p := ⟨gb143, 8, none⟩) (Kd.R_far (p := ⟨gb143, 7, none⟩) (Kd.R_far (p := ⟨gb143, 6, none⟩) (Kd.R_far (p := ⟨gb143, 5, none⟩) (Kd.R_far (p := ⟨gb143, 4, none⟩) (Kd.R_far (p := ⟨gb143, 3, none⟩) (Kd.R_far (p := ⟨gb143, 2, none⟩) (Kd.R_far (p := ⟨gb143, 1, none⟩) (Kd.R_far (p := ⟨gb143, 0, none⟩) (Kd.R_types HO_4.out BK143.out (by decide)) (fun _ hk => hk.2) (.int .i64 ((rd_T77 l0_0 x25_1).f0.f0))) (fun _ hk => hk.2) (.int .i64 ((rd_T77 l0_0 x25_1).f0.f1))) (fun _ hk => hk.2) (.int .i64 ((rd_T77 l0_0 x25_1).f0.f2))) (fun _ hk => hk.2) (.int .i64 ((rd_T77 l0_0 x25_1).f0.f3))) (fun _ hk => hk.2) (.int .i64 ((rd_T77 l0_0 x25_1).f0.f4))) (fun _ hk => hk.2) (.int .i64 ((rd_T77 l0_0 x25_1).f0.f5))) (fun _ hk => hk.2) (.int .i64 ((rd_T77 l0_0 x25_1).f0.f6))) (fun _ hk => hk.2) (.int .i64 ((rd_T77 l0_0 x25_1).f0.f7))) (fun _ hk => hk.2) (.int .i64 ((rd_T77 l0_0 x25_1).f0.f8))) (fun _ hk => hk.2) (.int .i64 ((rd_T77 l0_0 x25_1).f0.f9))) (fun _ hk => hk.2) (.int .i64 ((rd_T77 l0_0 x25_1).f1))) (fun _ hk => trivial)⟩, ⟨bk_⟩, ⟨by (with_reducible repeat (first | refine blk_drewN ?_ _ | refine blk_drew ?_ | refine blk_alloc ?_ _)); refine blk_put (cs := #[.int .i64 ((rd_T77 l0_0 x25_1).f0.f0), .int .i64 ((rd_T77 l0_0 x25_1).f0.f1), .int .i64 ((rd_T77 l0_0 x25_1).f0.f2), .int .i64 ((rd_T77 l0_0 x25_1).f0.f3), .int .i64 ((rd_T77 l0_0 x25_1).f0.f4), .int .i64 ((rd_T77 l0_0 x25_1).f0.f5), .int .i64 ((rd_T77 l0_0 x25_1).f0.f6), .int .i64 ((rd_T77 l0_0 x25_1).f0.f7), .int .i64 ((rd_T77 l0_0 x25_1).f0.f8), .int .i64 ((rd_T77 l0_0 x25_1).f0.f9), .int .i64 0]) ?_ 10 _ rfl; (with_reducible repeat (first | refine blk_drewN ?_ _ | refine blk_drew ?_ | refine blk_alloc ?_ _)); refine blk_put (cs := #[.int .i64 ((rd_T77 l0_0 x25_1).f0.f0), .int .i64 ((rd_T77 l0_0 x25_1).f0.f1), .int .i64 ((rd_T77 l0_0 x25_1).f0.f2), .int .i64 ((rd_T77 l0_0 x25_1).f0.f3), .int .i64 ((rd_T77 l0_0 x25_1).f0.f4), .int .i64 ((rd_T77 l0_0 x25_1).f0.f5), .int .i64 ((rd_T77 l0_0 x25_1).f0.f6), .int .i64 ((rd_T77 l0_0 x25_1).f0.f7), .int .i64 ((rd_T77 l0_0 x25_1).f0.f8), .int .i64 0, .int .i64 0]) ?_ 9 _ rfl; (with_reducible repeat (first | refine blk_drewN ?_ _ | refine blk_drew ?_ | refine blk_alloc ?_ _)); refine blk_put (cs := #[.int .i64 ((rd_T77 l0_0 x25_1).f0.f0), .int .i64 ((rd_T77 l0_0 x25_1).f0.f1), .int .i64 ((rd_T77 l0_0 x25_1).f0.f2), .int .i64 ((rd_T77 l0_0 x25_1).f0.f3), .int .i64 ((rd_T77 l0_0 x25_1).f0.f4), .int .i64 ((rd_T77 l0_0 x25_1).f0.f5), .int .i64 ((rd_T77 l0_0 x25_1).f0.f6), .int .i64 ((rd_T77 l0_0 x25_1).f0.f7), .int .i64 0, .int .i64 0, .int .i64 0]) ?_ 8 _ rfl; (with_reducible repeat (first | refine blk_drewN ?_ _ | refine blk_drew ?_ | refine blk_alloc ?_ _)); refine blk_put (cs := #[.int .i64 ((rd_T77 l0_0 x25_1).f0.f0), .int .i64 ((rd_T77 l0_0 x25_1).f0.f1), .int .i64 ((rd_T77 l0_0 x25_1).f0.f2), .int .i64 ((rd_T77 l0_0 x25_1).f0.f3), .int .i64 ((rd_T77 l0_0 x25_1).f0.f4), .int .i64 ((rd_T77 l0_0 x25_1).f0.f5), .int .i64 ((rd_T77 l0_0 x25_1).f0.f6), .int .i64 0, .int .i64 0, .int .i64 0, .int .i64 0]) ?_ 7 _ rfl; (with_reducible repeat (first | refine blk_drewN ?_ _ | refine blk_drew ?_ | refine blk_alloc ?_ _)); refine blk_put (cs := #[.int .i64 ((rd_T77 l0_0 x25_1).f0.f0), .int .i64 ((rd_T77 l0_0 x25_1).f0.f1), .int .i64 ((rd_T77 l0_0 x25_1).f0.f2), .int .i64 ((rd_T77 l0_0 x25_1).f0.f3), .int .i64 ((rd_T77 l0_0 x25_1).f0.f4), .int .i64 ((rd_T77 l0_0 x25_1).f0.f5), .int .i64 0, .int .i64 0, .int .i64 0, .int .i64 0, .int .i64 0]) ?_ 6 _ rfl; (with_reducible repeat (first | refine blk_drewN ?_ _ | refine blk_drew ?_ | refine blk_alloc ?_ _)); refine blk_put (cs := #[.int .i64 ((rd_T77 l0_0 x25_1).f0.f0), .int .i64 ((rd_T77 l0_0 x25_1).f0.f1), .int .i64 ((rd_T77 l0_0 x25_1).f0.f2), .int .i64 ((rd_T77 l0_0 x25_1).f0.f3), .int .i64 ((rd_T77 l0_0 x25_1).f0.f4), .int .i64 0, .int .i64 0, .int .i64 0, .int .i64 0, .int .i64 0, .int .i64 0]) ?_ 5 _ rfl; (with_reducible repeat (first | refine blk_drewN ?_ _ | refine blk_drew ?_ | refine blk_alloc ?_ _)); refine blk_put (cs := #[.int .i64 ((rd_T77 l0_0 x25_1).f0.f0), .int .i64 ((rd_T77 l0_0 x25_1).f0.f1), .int .i64 ((rd_T77 l0_0 x25_1).f0.f2), .int .i64 ((rd_T77 l0_0 x25_1).f0.f3), .int .i64 0, .int .i64 0, .int .i64 0, .int .i64 0, .int .i64 0, .int .i64 0, .int .i64 0]) ?_ 4 _ rfl; (with_reducible repeat (first | refine blk_drewN ?_ _ | refine blk_drew ?_ | refine blk_alloc ?_ _)); refine blk_put (cs := #[.int .i64 ((rd_T77 l0_0 x25_1).f0.f0), .int .i64 ((rd_T77 l0_0 x25_1).f0.f1), .int .i64 ((rd_T77 l0_0 x25_1).f0.f2), .int .i64 0, .int .i64 0, .int .i64 0, .int .i64 0, .int .i64 0, .int .i64 0, .int .i64 0, .int .i64 0]) ?_ 3 _ rfl; (with_reducible repeat (first | refine blk_drewN ?_ _ | refine blk_drew ?_ | refine blk_alloc ?_ _)); refine blk_put (cs := #[.int .i64 ((rd_T77 l0_0 x25_1).f0.f0), .int .i64 ((rd_T77 l0_0 x25_1).f0.f1), .int .i64 0, .int .i64 0, .int .i64 0, .int .i64 0, .int .i64 0, .int .i64 0, .int .i64 0, .int .i64 0, .int .i64 0]) ?_ 2 _ rfl; (with_reducible repeat (first | refine blk_drewN ?_ _ | refine blk_drew ?_ | refine blk_alloc ?_ _)); refine blk_put (cs := #[.int .i64 ((rd_T77 l0_0 x25_1).f0.f0), .int .i64 0, .int .i64 0, .int .i64 0, .int .i64 0, .int .i64 0, .int .i64 0, .int .i64 0, .int .i64 0, .int .i64 0, .int .i64 0]) ?_ 1 _ rfl; (with_reducible repeat (first | refine blk_drewN ?_ _ | refine blk_drew ?_ | refine blk_alloc ?_ _)); refine blk_put (cs := #[.int .i64 0, .int .i64 0, .int .i64 0, .int .i64 0, .int .i64 0, .int .i64 0, .int .i64 0, .int .i64 0, .int .i64 0, .int .i64 0, .int .i64 0]) ?_ 0 _ rfl; (with_reducible repeat (first | refine blk_drewN ?_ _ | refine blk_drew ?_ | refine blk_alloc ?_ _)); exact BK143.out⟩, ⟨hb_⟩⟩
                    case rest =>
                      clear HC18
                      try clear c1
                      try clear p1
                      try clear q1
                      try clear hx1
                      try clear c2
                      try clear c2b0
                      try clear c2b1
                      try clear p2
                      try clear c3
                      try clear c4
                      try clear c5
                      try clear c5b0
                      try clear c5b1
                      try clear c5b2
                      try clear c8
                      try clear c8b0
                      try clear c8b1
                      try clear c9
                      try clear c9b0
                      try clear c9b1
                      try clear p14
                      try clear q14
                      try clear hx14
                      try clear c15
                      try clear c15b0
                      try clear c16
                      try clear c16b0
                      try clear c17
                      try clear c17b0
                      try clear c20
                      try clear c22
                      try clear c22b0
                      try clear c23
                      try clear c25
                      try clear c25b0
                      try clear c26
                      try clear c28
                      try clear c28b0
                      try clear c29
                      try clear c29b0
                      try clear c30
                      try clear c33
                      try clear hx142_0
                      try clear hx142_1
                      try clear hx142_10
                      try clear hx142_2
                      try clear hx142_3
                      try clear hx142_4
                      try clear hx142_5
                      try clear hx142_6
                      try clear hx142_7
                      try clear hx142_8
                      try clear hx142_9
                      try clear hx144_0
                      try clear p142
                      try clear p144
                      try clear p2
                      try clear q142
                      try clear q144
                      obtain ⟨kq, x48_17, rfl, HA, HJ17, HO_4, BK138, BK143, HB⟩ := hcut
                      cases kq with
                      | zero => exact absurd HA.out (by simp [trie_Check.j1])
                      | succ kj17 =>
                        have H := HA.out
                        clear HA
                        simp only [trie_Check.j1] at H
                        by_cases c35 : x48_17 = true
                        · subst c35
                          rw [if_pos rfl] at H
                          obtain rfl := Option.some.inj H
                          go_wp2
                          go_ret
                          exact ⟨er_, hb_⟩
                        · replace c35 := Bool.eq_false_iff.mpr c35
                          subst c35
                          rw [if_neg (show ¬ (false = true) by decide)] at H
                          have H' := Aside0.mk H
                          clear H
                          have hnb36 := NB143_138.out
                          have hnc36 := NB138_143.out
                          obtain ⟨hcz37_0, hcz37_1, hcz37_2, hcz37_3, hcz37_4, hcz37_5, hcz37_6, hcz37_7, hcz37_8, hcz37_9, hcz37_10, hfz37_0, hfz37_1, hfz37_2, hfz37_3, hfz37_4, hfz37_5, hfz37_6, hfz37_7, hfz37_8, hfz37_9, hfz37_10⟩ := bx11 BK143
                          go_wp2
                          go_loopg [51] kj17 (fun kq v51 w' => ∃ (x4_3 : List Int) (x51_3 : Int), v51 = .int .i64 x51_3 ∧ Aside0 (trie_Check.l1 kq x4_3 x25_1 l0_0 (l0_0.length : Int) x25_1 x51_3 ((rd_T77 l0_0 x25_1).f0.f0) ((rd_T77 l0_0 x25_1).f0.f1) ((rd_T77 l0_0 x25_1).f0.f2) ((rd_T77 l0_0 x25_1).f0.f3) ((rd_T77 l0_0 x25_1).f0.f4) ((rd_T77 l0_0 x25_1).f0.f5) ((rd_T77 l0_0 x25_1).f0.f6) ((rd_T77 l0_0 x25_1).f0.f7) ((rd_T77 l0_0 x25_1).f0.f8) ((rd_T77 l0_0 x25_1).f0.f9) l0_0 = some r) ∧ Aside0 (kq ≤ kj17) ∧ Aside0 (Kd.R (Kd.int .i64) 3 w' w.heap.size (fun _ => True) v140 x4_3) ∧ Aside0 (w'.heap[gb138]? = some (.cells #[(.slice (some ad142) l0_0.length c0_0)] 32 (0, 0))) ∧ Aside0 (w'.heap[gb143]? = some (.cells #[.int .i64 ((rd_T77 l0_0 x25_1).f0.f0), .int .i64 ((rd_T77 l0_0 x25_1).f0.f1), .int .i64 ((rd_T77 l0_0 x25_1).f0.f2), .int .i64 ((rd_T77 l0_0 x25_1).f0.f3), .int .i64 ((rd_T77 l0_0 x25_1).f0.f4), .int .i64 ((rd_T77 l0_0 x25_1).f0.f5), .int .i64 ((rd_T77 l0_0 x25_1).f0.f6), .int .i64 ((rd_T77 l0_0 x25_1).f0.f7), .int .i64 ((rd_T77 l0_0 x25_1).f0.f8), .int .i64 ((rd_T77 l0_0 x25_1).f0.f9), .int .i64 ((rd_T77 l0_0 x25_1).f1)] 77 (0, 0))) ∧ Aside0 (Below w.heap.size w w'))
                          case atStart => exact ⟨(x4_1), (0), rf_, H', ⟨Nat.le_refl _⟩, ⟨ho_⟩, ⟨bk_⟩, ⟨bk_⟩, ⟨hb_⟩⟩
                          case round =>
                            clear H'
                            try clear c1
                            try clear p1
                            try clear q1
                            try clear hx1
                            try clear c2
                            try clear c2b0
                            try clear c2b1
                            try clear p2
                            try clear c3
                            try clear c4
                            try clear c5
                            try clear c5b0
                            try clear c5b1
                            try clear c5b2
                            try clear c8
                            try clear c8b0
                            try clear c8b1
                            try clear c9
                            try clear c9b0
                            try clear c9b1
                            try clear p14
                            try clear q14
                            try clear hx14
                            try clear c15
                            try clear c15b0
                            try clear c16
                            try clear c16b0
                            try clear c17
                            try clear c17b0
                            try clear c20
                            try clear c22
                            try clear c22b0
                            try clear c23
                            try clear c25
                            try clear c25b0
                            try clear c26
                            try clear c28
                            try clear c28b0
                            try clear c29
                            try clear c29b0
                            try clear c30
                            try clear c33
                            try clear c35
                            try clear c36
                            try clear hx142_0
                            try clear hx142_1
                            try clear hx142_10
                            try clear hx142_2
                            try clear hx142_3
                            try clear hx142_4
                            try clear hx142_5
                            try clear hx142_6
                            try clear hx142_7
                            try clear hx142_8
                            try clear hx142_9
                            try clear hx144_0
                            try clear p1
                            try clear p14
                            try clear p142
                            try clear p144
                            try clear p2
                            try clear q1
                            try clear q14
                            try clear q142
                            try clear q144
                            obtain ⟨x4_3, x51_3, rfl, HA, HK3, HO_4, BK138, BK143, HB⟩ := hrel
                            cases gk with
                            | zero => exact absurd HA.out (by simp [trie_Check.l1])
                            | succ k3 =>
                              have H := HA.out
                              clear HA
                              simp only [trie_Check.l1] at H
                              by_cases c38 : x51_3 < 10
                              · rw [if_pos c38] at H
                                have c38b0 : decide (x51_3 < 10) = true := decide_eq_true c38
                                clear c38
                                by_cases c39 : 0 ≤ x51_3
                                · rw [if_pos c39] at H
                                  have c39b0 : decide (0 ≤ x51_3) = true := decide_eq_true c39
                                  clear c39
                                  by_cases c41 : (at75 (⟨((rd_T77 l0_0 x25_1).f0.f0), ((rd_T77 l0_0 x25_1).f0.f1), ((rd_T77 l0_0 x25_1).f0.f2), ((rd_T77 l0_0 x25_1).f0.f3), ((rd_T77 l0_0 x25_1).f0.f4), ((rd_T77 l0_0 x25_1).f0.f5), ((rd_T77 l0_0 x25_1).f0.f6), ((rd_T77 l0_0 x25_1).f0.f7), ((rd_T77 l0_0 x25_1).f0.f8), ((rd_T77 l0_0 x25_1).f0.f9)⟩ : S75) x51_3) = 0
                                  · rw [if_pos c41] at H
                                    have c41b0 : ((at75 (⟨((rd_T77 l0_0 x25_1).f0.f0), ((rd_T77 l0_0 x25_1).f0.f1), ((rd_T77 l0_0 x25_1).f0.f2), ((rd_T77 l0_0 x25_1).f0.f3), ((rd_T77 l0_0 x25_1).f0.f4), ((rd_T77 l0_0 x25_1).f0.f5), ((rd_T77 l0_0 x25_1).f0.f6), ((rd_T77 l0_0 x25_1).f0.f7), ((rd_T77 l0_0 x25_1).f0.f8), ((rd_T77 l0_0 x25_1).f0.f9)⟩ : S75) x51_3) == 0) = true := beq_iff_eq.mpr c41
                                    have c41b1 : ((at75 (⟨((rd_T77 l0_0 x25_1).f0.f0), ((rd_T77 l0_0 x25_1).f0.f1), ((rd_T77 l0_0 x25_1).f0.f2), ((rd_T77 l0_0 x25_1).f0.f3), ((rd_T77 l0_0 x25_1).f0.f4), ((rd_T77 l0_0 x25_1).f0.f5), ((rd_T77 l0_0 x25_1).f0.f6), ((rd_T77 l0_0 x25_1).f0.f7), ((rd_T77 l0_0 x25_1).f0.f8), ((rd_T77 l0_0 x25_1).f0.f9)⟩ : S75) x51_3) != 0) = false := bne_eq_false_iff_eq.mpr c41
                                    clear c41
                                    have H' := Aside0.mk H
                                    clear H
                                    have p40 : 0 ≤ (x51_3 : Int) := (by first | omega | exact dt_)
                                    have q40 : x51_3 < (10 : Int) := (by first | omega | exact dt_)
                                    have hx40_0 := index_at75 (s := ⟨((rd_T77 l0_0 x25_1).f0.f0), ((rd_T77 l0_0 x25_1).f0.f1), ((rd_T77 l0_0 x25_1).f0.f2), ((rd_T77 l0_0 x25_1).f0.f3), ((rd_T77 l0_0 x25_1).f0.f4), ((rd_T77 l0_0 x25_1).f0.f5), ((rd_T77 l0_0 x25_1).f0.f6), ((rd_T77 l0_0 x25_1).f0.f7), ((rd_T77 l0_0 x25_1).f0.f8), ((rd_T77 l0_0 x25_1).f0.f9)⟩) p40 q40
                                    replace p40 := eq_true p40
                                    replace q40 := eq_true q40
                                    go_wp2
                                    go_roundg k3
                                    case measure => have := HK1.out; have := HJ17.out; have := HK3.out; omega
                                    case rel => exact ⟨(x4_3), (wrap64 (x51_3 + 1)), rf_, H', ⟨by have := HK1.out; have := HJ17.out; have := HK3.out; omega⟩, ⟨ho_⟩, ⟨bk_⟩, ⟨bk_⟩, ⟨hb_⟩⟩
                                  · rw [if_neg c41] at H
                                    have c41b0 : ((at75 (⟨((rd_T77 l0_0 x25_1).f0.f0), ((rd_T77 l0_0 x25_1).f0.f1), ((rd_T77 l0_0 x25_1).f0.f2), ((rd_T77 l0_0 x25_1).f0.f3), ((rd_T77 l0_0 x25_1).f0.f4), ((rd_T77 l0_0 x25_1).f0.f5), ((rd_T77 l0_0 x25_1).f0.f6), ((rd_T77 l0_0 x25_1).f0.f7), ((rd_T77 l0_0 x25_1).f0.f8), ((rd_T77 l0_0 x25_1).f0.f9)⟩ : S75) x51_3) == 0) = false := beq_eq_false_iff_ne.mpr c41
                                    have c41b1 : ((at75 (⟨((rd_T77 l0_0 x25_1).f0.f0), ((rd_T77 l0_0 x25_1).f0.f1), ((rd_T77 l0_0 x25_1).f0.f2), ((rd_T77 l0_0 x25_1).f0.f3), ((rd_T77 l0_0 x25_1).f0.f4), ((rd_T77 l0_0 x25_1).f0.f5), ((rd_T77 l0_0 x25_1).f0.f6), ((rd_T77 l0_0 x25_1).f0.f7), ((rd_T77 l0_0 x25_1).f0.f8), ((rd_T77 l0_0 x25_1).f0.f9)⟩ : S75) x51_3) != 0) = true := bne_iff_ne.mpr c41
                                    by_cases c42 : (at75 (⟨((rd_T77 l0_0 x25_1).f0.f0), ((rd_T77 l0_0 x25_1).f0.f1), ((rd_T77 l0_0 x25_1).f0.f2), ((rd_T77 l0_0 x25_1).f0.f3), ((rd_T77 l0_0 x25_1).f0.f4), ((rd_T77 l0_0 x25_1).f0.f5), ((rd_T77 l0_0 x25_1).f0.f6), ((rd_T77 l0_0 x25_1).f0.f7), ((rd_T77 l0_0 x25_1).f0.f8), ((rd_T77 l0_0 x25_1).f0.f9)⟩ : S75) x51_3) ≤ x25_1
                                    · rw [if_pos c42] at H
                                      have c42b0 : decide ((at75 (⟨((rd_T77 l0_0 x25_1).f0.f0), ((rd_T77 l0_0 x25_1).f0.f1), ((rd_T77 l0_0 x25_1).f0.f2), ((rd_T77 l0_0 x25_1).f0.f3), ((rd_T77 l0_0 x25_1).f0.f4), ((rd_T77 l0_0 x25_1).f0.f5), ((rd_T77 l0_0 x25_1).f0.f6), ((rd_T77 l0_0 x25_1).f0.f7), ((rd_T77 l0_0 x25_1).f0.f8), ((rd_T77 l0_0 x25_1).f0.f9)⟩ : S75) x51_3) ≤ x25_1) = true := decide_eq_true c42
                                      clear c42
                                      obtain rfl := Option.some.inj H
                                      have p40 : 0 ≤ (x51_3 : Int) := (by first | omega | exact dt_)
                                      have q40 : x51_3 < (10 : Int) := (by first | omega | exact dt_)
                                      have hx40_0 := index_at75 (s := ⟨((rd_T77 l0_0 x25_1).f0.f0), ((rd_T77 l0_0 x25_1).f0.f1), ((rd_T77 l0_0 x25_1).f0.f2), ((rd_T77 l0_0 x25_1).f0.f3), ((rd_T77 l0_0 x25_1).f0.f4), ((rd_T77 l0_0 x25_1).f0.f5), ((rd_T77 l0_0 x25_1).f0.f6), ((rd_T77 l0_0 x25_1).f0.f7), ((rd_T77 l0_0 x25_1).f0.f8), ((rd_T77 l0_0 x25_1).f0.f9)⟩) p40 q40
                                      replace p40 := eq_true p40
                                      replace q40 := eq_true q40
                                      go_wp2
                                      go_ret
                                      exact ⟨er_, hb_⟩
                                    · rw [if_neg c42] at H
                                      have c42b0 : decide ((at75 (⟨((rd_T77 l0_0 x25_1).f0.f0), ((rd_T77 l0_0 x25_1).f0.f1), ((rd_T77 l0_0 x25_1).f0.f2), ((rd_T77 l0_0 x25_1).f0.f3), ((rd_T77 l0_0 x25_1).f0.f4), ((rd_T77 l0_0 x25_1).f0.f5), ((rd_T77 l0_0 x25_1).f0.f6), ((rd_T77 l0_0 x25_1).f0.f7), ((rd_T77 l0_0 x25_1).f0.f8), ((rd_T77 l0_0 x25_1).f0.f9)⟩ : S75) x51_3) ≤ x25_1) = false := decide_eq_false c42
                                      clear c42
                                      by_cases c43 : (at75 (⟨((rd_T77 l0_0 x25_1).f0.f0), ((rd_T77 l0_0 x25_1).f0.f1), ((rd_T77 l0_0 x25_1).f0.f2), ((rd_T77 l0_0 x25_1).f0.f3), ((rd_T77 l0_0 x25_1).f0.f4), ((rd_T77 l0_0 x25_1).f0.f5), ((rd_T77 l0_0 x25_1).f0.f6), ((rd_T77 l0_0 x25_1).f0.f7), ((rd_T77 l0_0 x25_1).f0.f8), ((rd_T77 l0_0 x25_1).f0.f9)⟩ : S75) x51_3) ≥ (l0_0.length : Int)
                                      · rw [if_pos c43] at H
                                        have c43b0 : decide ((l0_0.length : Int) ≤ (at75 (⟨((rd_T77 l0_0 x25_1).f0.f0), ((rd_T77 l0_0 x25_1).f0.f1), ((rd_T77 l0_0 x25_1).f0.f2), ((rd_T77 l0_0 x25_1).f0.f3), ((rd_T77 l0_0 x25_1).f0.f4), ((rd_T77 l0_0 x25_1).f0.f5), ((rd_T77 l0_0 x25_1).f0.f6), ((rd_T77 l0_0 x25_1).f0.f7), ((rd_T77 l0_0 x25_1).f0.f8), ((rd_T77 l0_0 x25_1).f0.f9)⟩ : S75) x51_3)) = true := decide_eq_true c43
                                        clear c43
                                        obtain rfl := Option.some.inj H
                                        have p40 : 0 ≤ (x51_3 : Int) := (by first | omega | exact dt_)
                                        have q40 : x51_3 < (10 : Int) := (by first | omega | exact dt_)
                                        have hx40_0 := index_at75 (s := ⟨((rd_T77 l0_0 x25_1).f0.f0), ((rd_T77 l0_0 x25_1).f0.f1), ((rd_T77 l0_0 x25_1).f0.f2), ((rd_T77 l0_0 x25_1).f0.f3), ((rd_T77 l0_0 x25_1).f0.f4), ((rd_T77 l0_0 x25_1).f0.f5), ((rd_T77 l0_0 x25_1).f0.f6), ((rd_T77 l0_0 x25_1).f0.f7), ((rd_T77 l0_0 x25_1).f0.f8), ((rd_T77 l0_0 x25_1).f0.f9)⟩) p40 q40
                                        replace p40 := eq_true p40
                                        replace q40 := eq_true q40
                                        have hnb44 := NB138_143.out
                                        have hnc44 := NB143_138.out
                                        obtain ⟨hcz45_0, hfz45_0⟩ := bx1 BK138
                                        go_wp2
                                        go_ret
                                        exact ⟨er_, hb_⟩
                                      · rw [if_neg c43] at H
                                        have c43b0 : decide ((l0_0.length : Int) ≤ (at75 (⟨((rd_T77 l0_0 x25_1).f0.f0), ((rd_T77 l0_0 x25_1).f0.f1), ((rd_T77 l0_0 x25_1).f0.f2), ((rd_T77 l0_0 x25_1).f0.f3), ((rd_T77 l0_0 x25_1).f0.f4), ((rd_T77 l0_0 x25_1).f0.f5), ((rd_T77 l0_0 x25_1).f0.f6), ((rd_T77 l0_0 x25_1).f0.f7), ((rd_T77 l0_0 x25_1).f0.f8), ((rd_T77 l0_0 x25_1).f0.f9)⟩ : S75) x51_3)) = false := decide_eq_false c43
                                        clear c43
                                        by_cases c46 : 0 ≤ (at75 (⟨((rd_T77 l0_0 x25_1).f0.f0), ((rd_T77 l0_0 x25_1).f0.f1), ((rd_T77 l0_0 x25_1).f0.f2), ((rd_T77 l0_0 x25_1).f0.f3), ((rd_T77 l0_0 x25_1).f0.f4), ((rd_T77 l0_0 x25_1).f0.f5), ((rd_T77 l0_0 x25_1).f0.f6), ((rd_T77 l0_0 x25_1).f0.f7), ((rd_T77 l0_0 x25_1).f0.f8), ((rd_T77 l0_0 x25_1).f0.f9)⟩ : S75) x51_3)
                                        · rw [if_pos c46] at H
                                          have c46b0 : decide (0 ≤ (at75 (⟨((rd_T77 l0_0 x25_1).f0.f0), ((rd_T77 l0_0 x25_1).f0.f1), ((rd_T77 l0_0 x25_1).f0.f2), ((rd_T77 l0_0 x25_1).f0.f3), ((rd_T77 l0_0 x25_1).f0.f4), ((rd_T77 l0_0 x25_1).f0.f5), ((rd_T77 l0_0 x25_1).f0.f6), ((rd_T77 l0_0 x25_1).f0.f7), ((rd_T77 l0_0 x25_1).f0.f8), ((rd_T77 l0_0 x25_1).f0.f9)⟩ : S75) x51_3)) = true := decide_eq_true c46
                                          clear c46
                                          by_cases c47 : (at75 (⟨((rd_T77 l0_0 x25_1).f0.f0), ((rd_T77 l0_0 x25_1).f0.f1), ((rd_T77 l0_0 x25_1).f0.f2), ((rd_T77 l0_0 x25_1).f0.f3), ((rd_T77 l0_0 x25_1).f0.f4), ((rd_T77 l0_0 x25_1).f0.f5), ((rd_T77 l0_0 x25_1).f0.f6), ((rd_T77 l0_0 x25_1).f0.f7), ((rd_T77 l0_0 x25_1).f0.f8), ((rd_T77 l0_0 x25_1).f0.f9)⟩ : S75) x51_3) < (x4_3.length : Int)
                                          · rw [if_pos c47] at H
                                            have c47b0 : decide ((at75 (⟨((rd_T77 l0_0 x25_1).f0.f0), ((rd_T77 l0_0 x25_1).f0.f1), ((rd_T77 l0_0 x25_1).f0.f2), ((rd_T77 l0_0 x25_1).f0.f3), ((rd_T77 l0_0 x25_1).f0.f4), ((rd_T77 l0_0 x25_1).f0.f5), ((rd_T77 l0_0 x25_1).f0.f6), ((rd_T77 l0_0 x25_1).f0.f7), ((rd_T77 l0_0 x25_1).f0.f8), ((rd_T77 l0_0 x25_1).f0.f9)⟩ : S75) x51_3) < (x4_3.length : Int)) = true := decide_eq_true c47
                                            clear c47
                                            by_cases c48 : (rd x4_3 (at75 (⟨((rd_T77 l0_0 x25_1).f0.f0), ((rd_T77 l0_0 x25_1).f0.f1), ((rd_T77 l0_0 x25_1).f0.f2), ((rd_T77 l0_0 x25_1).f0.f3), ((rd_T77 l0_0 x25_1).f0.f4), ((rd_T77 l0_0 x25_1).f0.f5), ((rd_T77 l0_0 x25_1).f0.f6), ((rd_T77 l0_0 x25_1).f0.f7), ((rd_T77 l0_0 x25_1).f0.f8), ((rd_T77 l0_0 x25_1).f0.f9)⟩ : S75) x51_3)) > 0
                                            · rw [if_pos c48] at H
                                              have c48b0 : decide (0 < (rd x4_3 (at75 (⟨((rd_T77 l0_0 x25_1).f0.f0), ((rd_T77 l0_0 x25_1).f0.f1), ((rd_T77 l0_0 x25_1).f0.f2), ((rd_T77 l0_0 x25_1).f0.f3), ((rd_T77 l0_0 x25_1).f0.f4), ((rd_T77 l0_0 x25_1).f0.f5), ((rd_T77 l0_0 x25_1).f0.f6), ((rd_T77 l0_0 x25_1).f0.f7), ((rd_T77 l0_0 x25_1).f0.f8), ((rd_T77 l0_0 x25_1).f0.f9)⟩ : S75) x51_3))) = true := decide_eq_true c48
                                              clear c48
                                              obtain rfl := Option.some.inj H
                                              have p40 : 0 ≤ (x51_3 : Int) := (by first | omega | exact dt_)
                                              have q40 : x51_3 < (10 : Int) := (by first | omega | exact dt_)
                                              have hx40_0 := index_at75 (s := ⟨((rd_T77 l0_0 x25_1).f0.f0), ((rd_T77 l0_0 x25_1).f0.f1), ((rd_T77 l0_0 x25_1).f0.f2), ((rd_T77 l0_0 x25_1).f0.f3), ((rd_T77 l0_0 x25_1).f0.f4), ((rd_T77 l0_0 x25_1).f0.f5), ((rd_T77 l0_0 x25_1).f0.f6), ((rd_T77 l0_0 x25_1).f0.f7), ((rd_T77 l0_0 x25_1).f0.f8), ((rd_T77 l0_0 x25_1).f0.f9)⟩) p40 q40
                                              replace p40 := eq_true p40
                                              replace q40 := eq_true q40
                                              have hnb49 := NB138_143.out
                                              have hnc49 := NB143_138.out
                                              obtain ⟨hcz50_0, hfz50_0⟩ := bx1 BK138
                                              obtain ⟨Ao51, co51, eo51⟩ := Kd.R_slice HO_4.out
                                              subst eo51
                                              have p145 : 0 ≤ ((at75 (⟨((rd_T77 l0_0 x25_1).f0.f0), ((rd_T77 l0_0 x25_1).f0.f1), ((rd_T77 l0_0 x25_1).f0.f2), ((rd_T77 l0_0 x25_1).f0.f3), ((rd_T77 l0_0 x25_1).f0.f4), ((rd_T77 l0_0 x25_1).f0.f5), ((rd_T77 l0_0 x25_1).f0.f6), ((rd_T77 l0_0 x25_1).f0.f7), ((rd_T77 l0_0 x25_1).f0.f8), ((rd_T77 l0_0 x25_1).f0.f9)⟩ : S75) x51_3) : Int) := dt_
                                              have q145 : (at75 (⟨((rd_T77 l0_0 x25_1).f0.f0), ((rd_T77 l0_0 x25_1).f0.f1), ((rd_T77 l0_0 x25_1).f0.f2), ((rd_T77 l0_0 x25_1).f0.f3), ((rd_T77 l0_0 x25_1).f0.f4), ((rd_T77 l0_0 x25_1).f0.f5), ((rd_T77 l0_0 x25_1).f0.f6), ((rd_T77 l0_0 x25_1).f0.f7), ((rd_T77 l0_0 x25_1).f0.f8), ((rd_T77 l0_0 x25_1).f0.f9)⟩ : S75) x51_3) < (x4_3.length : Int) := dt_
                                              obtain ⟨ad145, e145, hx145_0⟩ := Kd.at_int (Kd.R_reads' HO_4.out).2.2 (at75 (⟨((rd_T77 l0_0 x25_1).f0.f0), ((rd_T77 l0_0 x25_1).f0.f1), ((rd_T77 l0_0 x25_1).f0.f2), ((rd_T77 l0_0 x25_1).f0.f3), ((rd_T77 l0_0 x25_1).f0.f4), ((rd_T77 l0_0 x25_1).f0.f5), ((rd_T77 l0_0 x25_1).f0.f6), ((rd_T77 l0_0 x25_1).f0.f7), ((rd_T77 l0_0 x25_1).f0.f8), ((rd_T77 l0_0 x25_1).f0.f9)⟩ : S75) x51_3) p145 q145
                                              cases e145
                                              replace p145 := eq_true p145
                                              replace q145 := eq_true q145
                                              go_wp2
                                              go_ret
                                              exact ⟨er_, hb_⟩
                                            · rw [if_neg c48] at H
                                              have c48b0 : decide (0 < (rd x4_3 (at75 (⟨((rd_T77 l0_0 x25_1).f0.f0), ((rd_T77 l0_0 x25_1).f0.f1), ((rd_T77 l0_0 x25_1).f0.f2), ((rd_T77 l0_0 x25_1).f0.f3), ((rd_T77 l0_0 x25_1).f0.f4), ((rd_T77 l0_0 x25_1).f0.f5), ((rd_T77 l0_0 x25_1).f0.f6), ((rd_T77 l0_0 x25_1).f0.f7), ((rd_T77 l0_0 x25_1).f0.f8), ((rd_T77 l0_0 x25_1).f0.f9)⟩ : S75) x51_3))) = false := decide_eq_false c48
                                              clear c48
                                              by_cases c52 : 0 ≤ x25_1
                                              · rw [if_pos c52] at H
                                                have c52b0 : decide (0 ≤ x25_1) = true := decide_eq_true c52
                                                clear c52
                                                by_cases c53 : x25_1 < (x4_3.length : Int)
                                                · rw [if_pos c53] at H
                                                  have c53b0 : decide (x25_1 < (x4_3.length : Int)) = true := decide_eq_true c53
                                                  clear c53
                                                  by_cases c54 : (rd x4_3 x25_1) = 15
                                                  · rw [if_pos c54] at H
                                                    have c54b0 : ((rd x4_3 x25_1) == 15) = true := beq_iff_eq.mpr c54
                                                    have c54b1 : ((rd x4_3 x25_1) != 15) = false := bne_eq_false_iff_eq.mpr c54
                                                    clear c54
                                                    obtain rfl := Option.some.inj H
                                                    have p40 : 0 ≤ (x51_3 : Int) := (by first | omega | exact dt_)
                                                    have q40 : x51_3 < (10 : Int) := (by first | omega | exact dt_)
                                                    have hx40_0 := index_at75 (s := ⟨((rd_T77 l0_0 x25_1).f0.f0), ((rd_T77 l0_0 x25_1).f0.f1), ((rd_T77 l0_0 x25_1).f0.f2), ((rd_T77 l0_0 x25_1).f0.f3), ((rd_T77 l0_0 x25_1).f0.f4), ((rd_T77 l0_0 x25_1).f0.f5), ((rd_T77 l0_0 x25_1).f0.f6), ((rd_T77 l0_0 x25_1).f0.f7), ((rd_T77 l0_0 x25_1).f0.f8), ((rd_T77 l0_0 x25_1).f0.f9)⟩) p40 q40
                                                    replace p40 := eq_true p40
                                                    replace q40 := eq_true q40
                                                    have hnb55 := NB138_143.out
                                                    have hnc55 := NB143_138.out
                                                    obtain ⟨hcz56_0, hfz56_0⟩ := bx1 BK138
                                                    obtain ⟨Ao57, co57, eo57⟩ := Kd.R_slice HO_4.out
                                                    subst eo57
                                                    have p145 : 0 ≤ ((at75 (⟨((rd_T77 l0_0 x25_1).f0.f0), ((rd_T77 l0_0 x25_1).f0.f1), ((rd_T77 l0_0 x25_1).f0.f2), ((rd_T77 l0_0 x25_1).f0.f3), ((rd_T77 l0_0 x25_1).f0.f4), ((rd_T77 l0_0 x25_1).f0.f5), ((rd_T77 l0_0 x25_1).f0.f6), ((rd_T77 l0_0 x25_1).f0.f7), ((rd_T77 l0_0 x25_1).f0.f8), ((rd_T77 l0_0 x25_1).f0.f9)⟩ : S75) x51_3) : Int) := dt_
                                                    have q145 : (at75 (⟨((rd_T77 l0_0 x25_1).f0.f0), ((rd_T77 l0_0 x25_1).f0.f1), ((rd_T77 l0_0 x25_1).f0.f2), ((rd_T77 l0_0 x25_1).f0.f3), ((rd_T77 l0_0 x25_1).f0.f4), ((rd_T77 l0_0 x25_1).f0.f5), ((rd_T77 l0_0 x25_1).f0.f6), ((rd_T77 l0_0 x25_1).f0.f7), ((rd_T77 l0_0 x25_1).f0.f8), ((rd_T77 l0_0 x25_1).f0.f9)⟩ : S75) x51_3) < (x4_3.length : Int) := dt_
                                                    obtain ⟨ad145, e145, hx145_0⟩ := Kd.at_int (Kd.R_reads' HO_4.out).2.2 (at75 (⟨((rd_T77 l0_0 x25_1).f0.f0), ((rd_T77 l0_0 x25_1).f0.f1), ((rd_T77 l0_0 x25_1).f0.f2), ((rd_T77 l0_0 x25_1).f0.f3), ((rd_T77 l0_0 x25_1).f0.f4), ((rd_T77 l0_0 x25_1).f0.f5), ((rd_T77 l0_0 x25_1).f0.f6), ((rd_T77 l0_0 x25_1).f0.f7), ((rd_T77 l0_0 x25_1).f0.f8), ((rd_T77 l0_0 x25_1).f0.f9)⟩ : S75) x51_3) p145 q145
                                                    cases e145
                                                    replace p145 := eq_true p145
                                                    replace q145 := eq_true q145
                                                    have p146 : 0 ≤ (x25_1 : Int) := dt_
                                                    have q146 : x25_1 < (x4_3.length : Int) := dt_
                                                    obtain ⟨ad146, e146, hx146_0⟩ := Kd.at_int (Kd.R_reads' HO_4.out).2.2 x25_1 p146 q146
                                                    obtain rfl : ad145 = ad146 := (by injection e146)
                                                    replace p146 := eq_true p146
                                                    replace q146 := eq_true q146
                                                    go_wp2
                                                    go_ret
                                                    exact ⟨er_, hb_⟩
                                                  · rw [if_neg c54] at H
                                                    have c54b0 : ((rd x4_3 x25_1) == 15) = false := beq_eq_false_iff_ne.mpr c54
                                                    have c54b1 : ((rd x4_3 x25_1) != 15) = true := bne_iff_ne.mpr c54
                                                    obtain ⟨y148, hy148⟩ : ∃ y_ : List Int, y_ = (x4_3.set ((at75 (⟨((rd_T77 l0_0 x25_1).f0.f0), ((rd_T77 l0_0 x25_1).f0.f1), ((rd_T77 l0_0 x25_1).f0.f2), ((rd_T77 l0_0 x25_1).f0.f3), ((rd_T77 l0_0 x25_1).f0.f4), ((rd_T77 l0_0 x25_1).f0.f5), ((rd_T77 l0_0 x25_1).f0.f6), ((rd_T77 l0_0 x25_1).f0.f7), ((rd_T77 l0_0 x25_1).f0.f8), ((rd_T77 l0_0 x25_1).f0.f9)⟩ : S75) x51_3) : Int).toNat (wrap64 ((rd x4_3 x25_1) + 1))) := ⟨_, rfl⟩
                                                    replace H : (trie_Check.l1 k3 y148 x25_1 l0_0 (l0_0.length : Int) x25_1 (wrap64 (x51_3 + 1)) ((rd_T77 l0_0 x25_1).f0.f0) ((rd_T77 l0_0 x25_1).f0.f1) ((rd_T77 l0_0 x25_1).f0.f2) ((rd_T77 l0_0 x25_1).f0.f3) ((rd_T77 l0_0 x25_1).f0.f4) ((rd_T77 l0_0 x25_1).f0.f5) ((rd_T77 l0_0 x25_1).f0.f6) ((rd_T77 l0_0 x25_1).f0.f7) ((rd_T77 l0_0 x25_1).f0.f8) ((rd_T77 l0_0 x25_1).f0.f9) l0_0) = some r := by first | (rw [hy148]; with_reducible exact H) | (have H2_ := (Option.bind_some _ _).symm.trans H; rw [hy148]; with_reducible exact H2_) | (have H2_ := (Option.bind_some _ _).symm.trans H; with_reducible exact H2_) | with_reducible exact H | (rw [hy148]; exact H) | exact H
                                                    have Ny148 := Aside0.mk hy148
                                                    clear hy148
                                                    have H' := Aside0.mk H
                                                    clear H
                                                    have p40 : 0 ≤ (x51_3 : Int) := (by first | omega | exact dt_)
                                                    have q40 : x51_3 < (10 : Int) := (by first | omega | exact dt_)
                                                    have hx40_0 := index_at75 (s := ⟨((rd_T77 l0_0 x25_1).f0.f0), ((rd_T77 l0_0 x25_1).f0.f1), ((rd_T77 l0_0 x25_1).f0.f2), ((rd_T77 l0_0 x25_1).f0.f3), ((rd_T77 l0_0 x25_1).f0.f4), ((rd_T77 l0_0 x25_1).f0.f5), ((rd_T77 l0_0 x25_1).f0.f6), ((rd_T77 l0_0 x25_1).f0.f7), ((rd_T77 l0_0 x25_1).f0.f8), ((rd_T77 l0_0 x25_1).f0.f9)⟩) p40 q40
                                                    replace p40 := eq_true p40
                                                    replace q40 := eq_true q40
                                                    have hnb59 := NB138_143.out
                                                    have hnc59 := NB143_138.out
                                                    obtain ⟨hcz60_0, hfz60_0⟩ := bx1 BK138
                                                    obtain ⟨Ao61, co61, eo61⟩ := Kd.R_slice HO_4.out
                                                    subst eo61
                                                    have p145 : 0 ≤ ((at75 (⟨((rd_T77 l0_0 x25_1).f0.f0), ((rd_T77 l0_0 x25_1).f0.f1), ((rd_T77 l0_0 x25_1).f0.f2), ((rd_T77 l0_0 x25_1).f0.f3), ((rd_T77 l0_0 x25_1).f0.f4), ((rd_T77 l0_0 x25_1).f0.f5), ((rd_T77 l0_0 x25_1).f0.f6), ((rd_T77 l0_0 x25_1).f0.f7), ((rd_T77 l0_0 x25_1).f0.f8), ((rd_T77 l0_0 x25_1).f0.f9)⟩ : S75) x51_3) : Int) := dt_
                                                    have q145 : (at75 (⟨((rd_T77 l0_0 x25_1).f0.f0), ((rd_T77 l0_0 x25_1).f0.f1), ((rd_T77 l0_0 x25_1).f0.f2), ((rd_T77 l0_0 x25_1).f0.f3), ((rd_T77 l0_0 x25_1).f0.f4), ((rd_T77 l0_0 x25_1).f0.f5), ((rd_T77 l0_0 x25_1).f0.f6), ((rd_T77 l0_0 x25_1).f0.f7), ((rd_T77 l0_0 x25_1).f0.f8), ((rd_T77 l0_0 x25_1).f0.f9)⟩ : S75) x51_3) < (x4_3.length : Int) := dt_
                                                    obtain ⟨ad145, e145, hx145_0⟩ := Kd.at_int (Kd.R_reads' HO_4.out).2.2 (at75 (⟨((rd_T77 l0_0 x25_1).f0.f0), ((rd_T77 l0_0 x25_1).f0.f1), ((rd_T77 l0_0 x25_1).f0.f2), ((rd_T77 l0_0 x25_1).f0.f3), ((rd_T77 l0_0 x25_1).f0.f4), ((rd_T77 l0_0 x25_1).f0.f5), ((rd_T77 l0_0 x25_1).f0.f6), ((rd_T77 l0_0 x25_1).f0.f7), ((rd_T77 l0_0 x25_1).f0.f8), ((rd_T77 l0_0 x25_1).f0.f9)⟩ : S75) x51_3) p145 q145
                                                    cases e145
                                                    replace p145 := eq_true p145
                                                    replace q145 := eq_true q145
                                                    have p146 : 0 ≤ (x25_1 : Int) := dt_
                                                    have q146 : x25_1 < (x4_3.length : Int) := dt_
                                                    obtain ⟨ad146, e146, hx146_0⟩ := Kd.at_int (Kd.R_reads' HO_4.out).2.2 x25_1 p146 q146
                                                    obtain rfl : ad145 = ad146 := (by injection e146)
                                                    replace p146 := eq_true p146
                                                    replace q146 := eq_true q146
                                                    have p147 : 0 ≤ (x25_1 : Int) := dt_
                                                    have q147 : x25_1 < (x4_3.length : Int) := dt_
                                                    obtain ⟨ad147, e147, hx147_0⟩ := Kd.at_int (Kd.R_reads' HO_4.out).2.2 x25_1 p147 q147
                                                    obtain rfl : ad145 = ad147 := (by injection e147)
                                                    replace p147 := eq_true p147
                                                    replace q147 := eq_true q147
                                                    have p58 : 0 ≤ ((at75 (⟨((rd_T77 l0_0 x25_1).f0.f0), ((rd_T77 l0_0 x25_1).f0.f1), ((rd_T77 l0_0 x25_1).f0.f2), ((rd_T77 l0_0 x25_1).f0.f3), ((rd_T77 l0_0 x25_1).f0.f4), ((rd_T77 l0_0 x25_1).f0.f5), ((rd_T77 l0_0 x25_1).f0.f6), ((rd_T77 l0_0 x25_1).f0.f7), ((rd_T77 l0_0 x25_1).f0.f8), ((rd_T77 l0_0 x25_1).f0.f9)⟩ : S75) x51_3) : Int) := dt_
                                                    have q58 : ((at75 (⟨((rd_T77 l0_0 x25_1).f0.f0), ((rd_T77 l0_0 x25_1).f0.f1), ((rd_T77 l0_0 x25_1).f0.f2), ((rd_T77 l0_0 x25_1).f0.f3), ((rd_T77 l0_0 x25_1).f0.f4), ((rd_T77 l0_0 x25_1).f0.f5), ((rd_T77 l0_0 x25_1).f0.f6), ((rd_T77 l0_0 x25_1).f0.f7), ((rd_T77 l0_0 x25_1).f0.f8), ((rd_T77 l0_0 x25_1).f0.f9)⟩ : S75) x51_3) : Int) < ((x4_3.length : Int) : Int) := dt_
                                                    obtain ⟨go58, co58, eo58, gb58, gl58, cl58, HG58⟩ := Kd.R_form HO_4.out (by omega)
                                                    (first | cases eo58 | (injection eo58 with ea_ en_ ec_; (first | subst ea_ | (injection ea_ with ea_; subst ea_)); subst ec_; clear en_))
                                                    have GB58 := Aside0.mk gb58
                                                    have GG58 := Aside0.mk HG58
                                                    clear gb58 gl58 HG58
                                                    (first | simp only [add_plain] at hx145_0 | skip)
                                                    (first | simp only [add_plain] at hx146_0 | skip)
                                                    (first | simp only [add_plain] at hx147_0 | skip)
                                                    obtain ⟨hx58_0, hf58_0⟩ := Kd.R_celln 0 HO_4.out ((at75 (⟨((rd_T77 l0_0 x25_1).f0.f0), ((rd_T77 l0_0 x25_1).f0.f1), ((rd_T77 l0_0 x25_1).f0.f2), ((rd_T77 l0_0 x25_1).f0.f3), ((rd_T77 l0_0 x25_1).f0.f4), ((rd_T77 l0_0 x25_1).f0.f5), ((rd_T77 l0_0 x25_1).f0.f6), ((rd_T77 l0_0 x25_1).f0.f7), ((rd_T77 l0_0 x25_1).f0.f8), ((rd_T77 l0_0 x25_1).f0.f9)⟩ : S75) x51_3) : Int) p58 q58
                                                    replace p58 := eq_true p58
                                                    replace q58 := eq_true q58
                                                    have HP62 := Kd.R_putg HO_4.out ((at75 (⟨((rd_T77 l0_0 x25_1).f0.f0), ((rd_T77 l0_0 x25_1).f0.f1), ((rd_T77 l0_0 x25_1).f0.f2), ((rd_T77 l0_0 x25_1).f0.f3), ((rd_T77 l0_0 x25_1).f0.f4), ((rd_T77 l0_0 x25_1).f0.f5), ((rd_T77 l0_0 x25_1).f0.f6), ((rd_T77 l0_0 x25_1).f0.f7), ((rd_T77 l0_0 x25_1).f0.f8), ((rd_T77 l0_0 x25_1).f0.f9)⟩ : S75) x51_3) : Int) (wrap64 ((rd x4_3 x25_1) + 1))
                                                    go_wp2_with (first | ((with_reducible refine gate_store (t := 3) (p := 87) rfl ?_); refine store_event (t := 3) (p := 87) (v := ?vo_w63) (w1 := (wr.setCell ⟨go58, ((at75 (⟨((rd_T77 l0_0 x25_1).f0.f0), ((rd_T77 l0_0 x25_1).f0.f1), ((rd_T77 l0_0 x25_1).f0.f2), ((rd_T77 l0_0 x25_1).f0.f3), ((rd_T77 l0_0 x25_1).f0.f4), ((rd_T77 l0_0 x25_1).f0.f5), ((rd_T77 l0_0 x25_1).f0.f6), ((rd_T77 l0_0 x25_1).f0.f7), ((rd_T77 l0_0 x25_1).f0.f8), ((rd_T77 l0_0 x25_1).f0.f9)⟩ : S75) x51_3) : Int).toNat, none⟩ (.int .i64 (wrap64 ((rd x4_3 x25_1) + 1))))) ?hg ?ho ?hn ?hr ?_; (case ho => rfl); (case hg => rfl); (case hn => rfl); (case hr => exact gs_); intro w63 hw; have hg : wr.grownBy w63 (some go58) := (by rw [hw]; exact HP62.2); have hp_ : Kd.R (Kd.int .i64) 3 w63 w.heap.size (fun _ => True) (.slice (some ⟨go58, 0, none⟩) x4_3.length co61) y148 := (by rw [hw, Ny148.out]; exact HP62.1); clear HP62; have n0_ := Aside0.mk (hp_); have n1_ := Aside0.mk (blk_grown (g := gb138) (o := .cells #[.slice (some ad142) l0_0.length c0_0] 32 (0, 0)) bk_ hg (Kd.R_ne HO_4.out BK138.out (by decide))); have n2_ := Aside0.mk (blk_grown (g := gb143) (o := .cells #[.int .i64 ((rd_T77 l0_0 x25_1).f0.f0), .int .i64 ((rd_T77 l0_0 x25_1).f0.f1), .int .i64 ((rd_T77 l0_0 x25_1).f0.f2), .int .i64 ((rd_T77 l0_0 x25_1).f0.f3), .int .i64 ((rd_T77 l0_0 x25_1).f0.f4), .int .i64 ((rd_T77 l0_0 x25_1).f0.f5), .int .i64 ((rd_T77 l0_0 x25_1).f0.f6), .int .i64 ((rd_T77 l0_0 x25_1).f0.f7), .int .i64 ((rd_T77 l0_0 x25_1).f0.f8), .int .i64 ((rd_T77 l0_0 x25_1).f0.f9), .int .i64 ((rd_T77 l0_0 x25_1).f1)] 77 (0, 0)) bk_ hg (Kd.R_ne HO_4.out BK143.out (by decide))); have n3_ := Aside0.mk ((by rw [hw]; exact below_set (HB.out) GB58.out : Below w.heap.size w w63)); clear HO_4; clear BK138; clear BK143; clear HB; have HO_4 := n0_; have BK138 := n1_; have BK143 := n2_; have HB := n3_; clear n0_ n1_ n2_ n3_; clear hg hw hp_))
                                                    go_roundg k3
                                                    case measure => have := HK1.out; have := HJ17.out; have := HK3.out; omega
                                                    case rel => exact ⟨(y148), (wrap64 (x51_3 + 1)), rf_, H', ⟨by have := HK1.out; have := HJ17.out; have := HK3.out; omega⟩, ⟨ho_⟩, ⟨bk_⟩, ⟨bk_⟩, ⟨hb_⟩⟩
                                                · rw [if_neg c53] at H
                                                  exact absurd H (by simp)
                                              · rw [if_neg c52] at H
                                                exact absurd H (by simp)
                                          · rw [if_neg c47] at H
                                            exact absurd H (by simp)
                                        · rw [if_neg c46] at H
                                          exact absurd H (by simp)
                                · rw [if_neg c39] at H
                                  exact absurd H (by simp)
                              · rw [if_neg c38] at H
                                have c38b0 : decide (x51_3 < 10) = false := decide_eq_false c38
                                clear c38
                                have H' := Aside0.mk H
                                clear H
                                go_wp2
                                go_roundg k3
                                case measure => have := HK1.out; have := HJ17.out; have := HK3.out; omega
                                case rel => exact ⟨(x4_3), (wrap64 (x25_1 + 1)), rf_, H', ⟨by have := HK1.out; have := HJ17.out; have := HK3.out; omega⟩, ⟨ho_⟩, ⟨bk_⟩, ⟨hb_⟩⟩
                  · rw [if_neg c17] at H
                    exact absurd H (by simp)
                · rw [if_neg c16] at H
                  exact absurd H (by simp)
              · rw [if_neg c15] at H
                have c15b0 : decide (x25_1 < (l0_0.length : Int)) = false := decide_eq_false c15
                clear c15
                obtain rfl := Option.some.inj H
                go_wp2
                go_ret
                exact ⟨er_, hb_⟩
        · rw [if_neg c9] at H
          exact absurd H (by simp)
      · rw [if_neg c8] at H
        exact absurd H (by simp)

end Go.Proofs.YthknfclhkmehgaaDoor.Fn
