-- printed by a program of this session, out of the translation; Lean checks it
import Derived.Test.YthknfclhkmehgaaDoorFn0
namespace Go.Proofs.YthknfclhkmehgaaDoor.Fn
open Go.RowKit Go.Proofs.YthknfclhkmehgaaDoorW.PrintWords Go.Proofs.YthknfclhkmehgaaDoorW.PrintLast Go.Proofs.YthknfclhkmehgaaDoorW.PrintMore
attribute [local go_sem] max2_int min2_int max_two min_two max_three min_three max_four min_four   -- for this text's walks alone
set_option linter.unusedVariables false
set_option linter.unusedSimpArgs false

/-! ### trie_Check: function 43 -/
mutual
def trie_Check.l0 : Nat → List Int → List (S77) → Int → Int → List (S77) → Option (Int)
  | 0, _, _, _, _, _ => none
  | k + 1, x4, x23, x24, x25, x322000 => if x25 < x24 then (if 0 ≤ x25 then (if x25 < (x23.length : Int) then (if ((rd_T77 x23 x25).f1) < 0 then (trie_Check.j1 k x4 x25 x23 x24 x25 true x322000 ((rd_T77 x23 x25).f0.f0) ((rd_T77 x23 x25).f0.f1) ((rd_T77 x23 x25).f0.f2) ((rd_T77 x23 x25).f0.f3) ((rd_T77 x23 x25).f0.f4) ((rd_T77 x23 x25).f0.f5) ((rd_T77 x23 x25).f0.f6) ((rd_T77 x23 x25).f0.f7) ((rd_T77 x23 x25).f0.f8) ((rd_T77 x23 x25).f0.f9) ((rd_T77 x23 x25).f1)) else (if ((rd_T77 x23 x25).f1) > 1099511627776 then (trie_Check.j1 k x4 x25 x23 x24 x25 true x322000 ((rd_T77 x23 x25).f0.f0) ((rd_T77 x23 x25).f0.f1) ((rd_T77 x23 x25).f0.f2) ((rd_T77 x23 x25).f0.f3) ((rd_T77 x23 x25).f0.f4) ((rd_T77 x23 x25).f0.f5) ((rd_T77 x23 x25).f0.f6) ((rd_T77 x23 x25).f0.f7) ((rd_T77 x23 x25).f0.f8) ((rd_T77 x23 x25).f0.f9) ((rd_T77 x23 x25).f1)) else (if x25 > 0 then (if x25 < (x4.length : Int) then (trie_Check.j1 k x4 x25 x23 x24 x25 ((rd x4 x25) == 0) x322000 ((rd_T77 x23 x25).f0.f0) ((rd_T77 x23 x25).f0.f1) ((rd_T77 x23 x25).f0.f2) ((rd_T77 x23 x25).f0.f3) ((rd_T77 x23 x25).f0.f4) ((rd_T77 x23 x25).f0.f5) ((rd_T77 x23 x25).f0.f6) ((rd_T77 x23 x25).f0.f7) ((rd_T77 x23 x25).f0.f8) ((rd_T77 x23 x25).f0.f9) ((rd_T77 x23 x25).f1)) else (none)) else (trie_Check.j1 k x4 x25 x23 x24 x25 false x322000 ((rd_T77 x23 x25).f0.f0) ((rd_T77 x23 x25).f0.f1) ((rd_T77 x23 x25).f0.f2) ((rd_T77 x23 x25).f0.f3) ((rd_T77 x23 x25).f0.f4) ((rd_T77 x23 x25).f0.f5) ((rd_T77 x23 x25).f0.f6) ((rd_T77 x23 x25).f0.f7) ((rd_T77 x23 x25).f0.f8) ((rd_T77 x23 x25).f0.f9) ((rd_T77 x23 x25).f1))))) else (none)) else (none)) else (some 0)
def trie_Check.j1 : Nat → List Int → Int → List (S77) → Int → Int → Bool → List (S77) → Int → Int → Int → Int → Int → Int → Int → Int → Int → Int → Int → Option (Int)
  | 0, _, _, _, _, _, _, _, _, _, _, _, _, _, _, _, _, _, _ => none
  | k + 1, x4, x5, x23, x24, x25, x48, x322000, x327000, x327001, x327002, x327003, x327004, x327005, x327006, x327007, x327008, x327009, x327010 => if x48 = true then (some 1) else (trie_Check.l1 k x4 x5 x23 x24 x25 0 x327000 x327001 x327002 x327003 x327004 x327005 x327006 x327007 x327008 x327009 x322000)
def trie_Check.l1 : Nat → List Int → Int → List (S77) → Int → Int → Int → Int → Int → Int → Int → Int → Int → Int → Int → Int → Int → List (S77) → Option (Int)
  | 0, _, _, _, _, _, _, _, _, _, _, _, _, _, _, _, _, _ => none
  | k + 1, x4, x5, x23, x24, x25, x51, x900, x901, x902, x903, x904, x905, x906, x907, x908, x909, x322000 => if x51 < 10 then (if 0 ≤ x51 then (if (at75 (⟨x900, x901, x902, x903, x904, x905, x906, x907, x908, x909⟩ : S75) x51) = 0 then (trie_Check.l1 k x4 x5 x23 x24 x25 (wrap64 (x51 + 1)) x900 x901 x902 x903 x904 x905 x906 x907 x908 x909 x322000) else (if (at75 (⟨x900, x901, x902, x903, x904, x905, x906, x907, x908, x909⟩ : S75) x51) ≤ x5 then (some 1) else (if (at75 (⟨x900, x901, x902, x903, x904, x905, x906, x907, x908, x909⟩ : S75) x51) ≥ (x322000.length : Int) then (some 1) else (if 0 ≤ (at75 (⟨x900, x901, x902, x903, x904, x905, x906, x907, x908, x909⟩ : S75) x51) then (if (at75 (⟨x900, x901, x902, x903, x904, x905, x906, x907, x908, x909⟩ : S75) x51) < (x4.length : Int) then (if (rd x4 (at75 (⟨x900, x901, x902, x903, x904, x905, x906, x907, x908, x909⟩ : S75) x51)) > 0 then (some 1) else (if 0 ≤ x5 then (if x5 < (x4.length : Int) then (if (rd x4 x5) = 15 then (some 1) else (trie_Check.l1 k (x4.set ((at75 (⟨x900, x901, x902, x903, x904, x905, x906, x907, x908, x909⟩ : S75) x51) : Int).toNat (wrap64 ((rd x4 x5) + 1))) x5 x23 x24 x25 (wrap64 (x51 + 1)) x900 x901 x902 x903 x904 x905 x906 x907 x908 x909 x322000)) else (none)) else (none))) else (none)) else (none))))) else (none)) else (trie_Check.l0 k x4 x23 x24 (wrap64 (x25 + 1)) x322000)
end
def trie_Check.f (k : Nat) (l0_0 : List (S77)) : Option (Int) := if (l0_0.length : Int) > 4096 then (some 2) else (if (l0_0.length : Int) = 0 then (some 1) else (if 0 ≤ (l0_0.length : Int) then (if ((l0_0.length : Int) : Int).toNat ≤ 35184372088832 then (trie_Check.l0 k (List.replicate ((l0_0.length : Int) : Int).toNat 0) l0_0 (l0_0.length : Int) 0 l0_0) else (none)) else (none)))
theorem trie_Check.mono_l : ∀ k, (∀ y0 y1 y2 y3 y4, LeO (trie_Check.l0 k y0 y1 y2 y3 y4) (trie_Check.l0 (k + 1) y0 y1 y2 y3 y4)) ∧ (∀ y0 y1 y2 y3 y4 y5 y6 y7 y8 y9 y10 y11 y12 y13 y14 y15 y16 y17, LeO (trie_Check.j1 k y0 y1 y2 y3 y4 y5 y6 y7 y8 y9 y10 y11 y12 y13 y14 y15 y16 y17) (trie_Check.j1 (k + 1) y0 y1 y2 y3 y4 y5 y6 y7 y8 y9 y10 y11 y12 y13 y14 y15 y16 y17)) ∧ (∀ y0 y1 y2 y3 y4 y5 y6 y7 y8 y9 y10 y11 y12 y13 y14 y15 y16, LeO (trie_Check.l1 k y0 y1 y2 y3 y4 y5 y6 y7 y8 y9 y10 y11 y12 y13 y14 y15 y16) (trie_Check.l1 (k + 1) y0 y1 y2 y3 y4 y5 y6 y7 y8 y9 y10 y11 y12 y13 y14 y15 y16))
  | 0 => ⟨fun _ _ _ _ _ r h => by simp [trie_Check.l0] at h, fun _ _ _ _ _ _ _ _ _ _ _ _ _ _ _ _ _ _ r h => by simp [trie_Check.j1] at h, fun _ _ _ _ _ _ _ _ _ _ _ _ _ _ _ _ _ r h => by simp [trie_Check.l1] at h⟩
  | k + 1 => by
    obtain ⟨ih0, ih1, ih2⟩ := trie_Check.mono_l k
    refine ⟨?_, ?_, ?_⟩
    · intro y0 y1 y2 y3 y4
      unfold trie_Check.l0
      repeat' first
      | (with_reducible exact ih0 _ _ _ _ _)
      | (with_reducible exact ih1 _ _ _ _ _ _ _ _ _ _ _ _ _ _ _ _ _ _)
      | (with_reducible exact ih2 _ _ _ _ _ _ _ _ _ _ _ _ _ _ _ _ _)
      | (with_reducible exact LeO.refl _)
      | (with_reducible exact LeO.none _)
      | (with_reducible refine LeO.ite ?_ ?_)
      | (with_reducible refine LeO.bind ?_ (fun _ => ?_))
      | exact ih0 _ _ _ _ _
      | exact ih1 _ _ _ _ _ _ _ _ _ _ _ _ _ _ _ _ _ _
      | exact ih2 _ _ _ _ _ _ _ _ _ _ _ _ _ _ _ _ _
      | exact LeO.none _
      | refine LeO.ite ?_ ?_
      | refine LeO.bind ?_ (fun _ => ?_)
    · intro y0 y1 y2 y3 y4 y5 y6 y7 y8 y9 y10 y11 y12 y13 y14 y15 y16 y17
      unfold trie_Check.j1
      repeat' first
      | (with_reducible exact ih0 _ _ _ _ _)
      | (with_reducible exact ih1 _ _ _ _ _ _ _ _ _ _ _ _ _ _ _ _ _ _)
      | (with_reducible exact ih2 _ _ _ _ _ _ _ _ _ _ _ _ _ _ _ _ _)
      | (with_reducible exact LeO.refl _)
      | (with_reducible exact LeO.none _)
      | (with_reducible refine LeO.ite ?_ ?_)
      | (with_reducible refine LeO.bind ?_ (fun _ => ?_))
      | exact ih0 _ _ _ _ _
      | exact ih1 _ _ _ _ _ _ _ _ _ _ _ _ _ _ _ _ _ _
      | exact ih2 _ _ _ _ _ _ _ _ _ _ _ _ _ _ _ _ _
      | exact LeO.none _
      | refine LeO.ite ?_ ?_
      | refine LeO.bind ?_ (fun _ => ?_)
    · intro y0 y1 y2 y3 y4 y5 y6 y7 y8 y9 y10 y11 y12 y13 y14 y15 y16
      unfold trie_Check.l1
      repeat' first
      | (with_reducible exact ih0 _ _ _ _ _)
      | (with_reducible exact ih1 _ _ _ _ _ _ _ _ _ _ _ _ _ _ _ _ _ _)
      | (with_reducible exact ih2 _ _ _ _ _ _ _ _ _ _ _ _ _ _ _ _ _)
      | (with_reducible exact LeO.refl _)
      | (with_reducible exact LeO.none _)
      | (with_reducible refine LeO.ite ?_ ?_)
      | (with_reducible refine LeO.bind ?_ (fun _ => ?_))
      | exact ih0 _ _ _ _ _
      | exact ih1 _ _ _ _ _ _ _ _ _ _ _ _ _ _ _ _ _ _
      | exact ih2 _ _ _ _ _ _ _ _ _ _ _ _ _ _ _ _ _
      | exact LeO.none _
      | refine LeO.ite ?_ ?_
      | refine LeO.bind ?_ (fun _ => ?_)
theorem trie_Check.mono : ∀ a0 k, LeO (trie_Check.f k a0) (trie_Check.f (k + 1) a0) := by
  intro a0 k
  obtain ⟨ih0, ih1, ih2⟩ := trie_Check.mono_l k
  unfold trie_Check.f
  repeat' first
      | (with_reducible exact ih0 _ _ _ _ _)
      | (with_reducible exact ih1 _ _ _ _ _ _ _ _ _ _ _ _ _ _ _ _ _ _)
      | (with_reducible exact ih2 _ _ _ _ _ _ _ _ _ _ _ _ _ _ _ _ _)
      | (with_reducible exact LeO.refl _)
      | (with_reducible exact LeO.none _)
      | (with_reducible refine LeO.ite ?_ ?_)
      | (with_reducible refine LeO.bind ?_ (fun _ => ?_))
      | exact ih0 _ _ _ _ _
      | exact ih1 _ _ _ _ _ _ _ _ _ _ _ _ _ _ _ _ _ _
      | exact ih2 _ _ _ _ _ _ _ _ _ _ _ _ _ _ _ _ _
      | exact LeO.none _
      | refine LeO.ite ?_ ?_
      | refine LeO.bind ?_ (fun _ => ?_)
set_option maxHeartbeats 8000000 in
set_option maxRecDepth 100000 in
theorem trie_Check.calls (k : Nat) (A0_0 : Option Addr) (c0_0 : Nat) (l0_0 : List (S77)) (r : Int) (w : World) (hr0_0 : Kd.C k77 w A0_0 l0_0.length l0_0) (hc0_0 : l0_0.length ≤ c0_0) (h : trie_Check.f k l0_0 = some r) :
    Calls Tryd.prog 43 #[.agg #[.slice A0_0 l0_0.length c0_0]] w fun e w' => e = .returned (.int .i64 r) ∧ Below w.heap.size w w' := by
  have hu32 := Tryd.underlying32
  have hu77 := Tryd.underlying77
  have hu75 := Tryd.underlying75
  have HR0_0 := Aside0.mk hr0_0
  have HC0_0 := Aside0.mk hc0_0
  clear hr0_0 hc0_0
  have HB := Aside0.mk (Below.refl w.heap.size w)
  have H : (if (l0_0.length : Int) > 4096 then (some 2) else (if (l0_0.length : Int) = 0 then (some 1) else (if 0 ≤ (l0_0.length : Int) then (if ((l0_0.length : Int) : Int).toNat ≤ 35184372088832 then (trie_Check.l0 k (List.replicate ((l0_0.length : Int) : Int).toNat 0) l0_0 (l0_0.length : Int) 0 l0_0) else (none)) else (none)))) = some r := h
  clear h
  by_cases c2 : (l0_0.length : Int) > 4096
  · rw [if_pos c2] at H
    have c2b0 : decide (4096 < (l0_0.length : Int)) = true := decide_eq_true c2
    have c2b1 : decide (4096 < l0_0.length) = true := decide_eq_true (by omega)
    clear c2
    obtain rfl := Option.some.inj H
    go_enter Tryd.func43, Tryd.ntmps43
    go_wp2_with (first | ((with_reducible refine gate_dst (N := 1) rfl ?_); (try (refine gate_guard (by rfl) ?_; dsimp only)); refine box_event ?hg (N := 1) ?hd (cs := #[.slice A0_0 l0_0.length c0_0]) (t := 32) ?hr ?_; (case hd => rfl); (case hg => rfl); (case hr => first | (go_simp; done) | (go_simp; rfl)); intro gb321 hg w3 hbox hb; have n0_ := Aside0.mk (below_step (by repeat (first | (with_reducible first | exact HB.out | apply below_alloc | apply pw_below_drewN | apply below_drew1) | exact HB.out)) hb); have n1_ := Aside0.mk (hbox); have n2_ := Aside0.mk ((by rw [hg]; exact (below_size (by repeat (first | (with_reducible first | exact HB.out | apply below_alloc | apply pw_below_drewN | apply below_drew1) | exact HB.out))) : w.heap.size ≤ gb321)); have n3_ := Aside0.mk ((by rw [hg]; exact (below_size (by repeat (first | (with_reducible first | exact HB.out | apply below_alloc | apply pw_below_drewN | apply below_drew1) | exact HB.out))) : w.heap.size ≤ gb321)); clear HB; have HB := n0_; have BK321 := n1_; have GW321 := n2_; have GE321 := n3_; clear n0_ n1_ n2_ n3_; clear hb hbox hg; have hcz4_0 : w3.cell? ⟨gb321, 0, none⟩ = some (.slice A0_0 l0_0.length c0_0) := (blk_cell BK321.out 0).trans rfl; have hfz4_0 := blk_frozen BK321.out 0))
    go_ret
    exact ⟨by first | rfl | (simp [errW_none, errW_some] <;> rfl) | (simp [*, errW_none, errW_some] <;> rfl), by repeat (first | (with_reducible first | exact HB.out | apply below_alloc | apply pw_below_drewN | apply below_drew1 | refine below_set ?_ GE321.out) | exact HB.out)⟩
  · rw [if_neg c2] at H
    have c2b0 : decide (4096 < (l0_0.length : Int)) = false := decide_eq_false c2
    have c2b1 : decide (4096 < l0_0.length) = false := decide_eq_false (by omega)
    clear c2
    by_cases c5 : (l0_0.length : Int) = 0
    · rw [if_pos c5] at H
      have c5b0 : ((l0_0.length : Int) == 0) = true := beq_iff_eq.mpr c5
      have c5b1 : ((l0_0.length : Int) != 0) = false := bne_eq_false_iff_eq.mpr c5
      clear c5
      obtain rfl := Option.some.inj H
      go_enter Tryd.func43, Tryd.ntmps43
      go_wp2_with (first | ((with_reducible refine gate_dst (N := 1) rfl ?_); (try (refine gate_guard (by rfl) ?_; dsimp only)); refine box_event ?hg (N := 1) ?hd (cs := #[.slice A0_0 l0_0.length c0_0]) (t := 32) ?hr ?_; (case hd => rfl); (case hg => rfl); (case hr => first | (go_simp; done) | (go_simp; rfl)); intro gb321 hg w6 hbox hb; have n0_ := Aside0.mk (below_step (by repeat (first | (with_reducible first | exact HB.out | apply below_alloc | apply pw_below_drewN | apply below_drew1) | exact HB.out)) hb); have n1_ := Aside0.mk (hbox); have n2_ := Aside0.mk ((by rw [hg]; exact (below_size (by repeat (first | (with_reducible first | exact HB.out | apply below_alloc | apply pw_below_drewN | apply below_drew1) | exact HB.out))) : w.heap.size ≤ gb321)); have n3_ := Aside0.mk ((by rw [hg]; exact (below_size (by repeat (first | (with_reducible first | exact HB.out | apply below_alloc | apply pw_below_drewN | apply below_drew1) | exact HB.out))) : w.heap.size ≤ gb321)); clear HB; have HB := n0_; have BK321 := n1_; have GW321 := n2_; have GE321 := n3_; clear n0_ n1_ n2_ n3_; clear hb hbox hg; have hcz7_0 : w6.cell? ⟨gb321, 0, none⟩ = some (.slice A0_0 l0_0.length c0_0) := (blk_cell BK321.out 0).trans rfl; have hfz7_0 := blk_frozen BK321.out 0))
      go_ret
      exact ⟨by first | rfl | (simp [errW_none, errW_some] <;> rfl) | (simp [*, errW_none, errW_some] <;> rfl), by repeat (first | (with_reducible first | exact HB.out | apply below_alloc | apply pw_below_drewN | apply below_drew1 | refine below_set ?_ GE321.out) | exact HB.out)⟩
    · rw [if_neg c5] at H
      have c5b0 : ((l0_0.length : Int) == 0) = false := beq_eq_false_iff_ne.mpr c5
      have c5b1 : ((l0_0.length : Int) != 0) = true := bne_iff_ne.mpr c5
      have c5b2 : ¬ (l0_0 = []) := fun h_ => c5 (by rw [h_]; rfl)
      by_cases c8 : 0 ≤ (l0_0.length : Int)
      · rw [if_pos c8] at H
        have c8b0 := eq_true c8
        have c8b1 : decide (0 ≤ (l0_0.length : Int)) = true := decide_eq_true c8
        clear c8
        by_cases c9 : ((l0_0.length : Int) : Int).toNat ≤ 35184372088832
        · rw [if_pos c9] at H
          have c9b0 := eq_true c9
          have c9b1 : decide (((l0_0.length : Int) : Int).toNat ≤ 35184372088832) = true := decide_eq_true c9
          clear c9
          obtain ⟨y322, hy322⟩ : ∃ y_ : List Int, y_ = (List.replicate ((l0_0.length : Int) : Int).toNat 0) := ⟨_, rfl⟩
          replace H : (trie_Check.l0 k y322 l0_0 (l0_0.length : Int) 0 l0_0) = some r := by first | (rw [hy322]; with_reducible exact H) | (have H2_ := (Option.bind_some _ _).symm.trans H; rw [hy322]; with_reducible exact H2_) | (have H2_ := (Option.bind_some _ _).symm.trans H; with_reducible exact H2_) | with_reducible exact H | (rw [hy322]; exact H) | exact H
          have Ny322 := Aside0.mk hy322
          clear hy322
          have H' := Aside0.mk H
          clear H
          go_enter Tryd.func43, Tryd.ntmps43
          go_wp2_with (first | ((with_reducible refine gate_dst (N := 1) rfl ?_); (try (refine gate_guard (by rfl) ?_; dsimp only)); refine box_event ?hg (N := 1) ?hd (cs := #[.slice A0_0 l0_0.length c0_0]) (t := 32) ?hr ?_; (case hd => rfl); (case hg => rfl); (case hr => first | (go_simp; done) | (go_simp; rfl)); intro gb321 hg w10 hbox hb; have n0_ := Aside0.mk (below_step (by repeat (first | (with_reducible first | exact HB.out | apply below_alloc | apply pw_below_drewN | apply below_drew1) | exact HB.out)) hb); have n1_ := Aside0.mk (hbox); have n2_ := Aside0.mk ((by rw [hg]; exact (below_size (by repeat (first | (with_reducible first | exact HB.out | apply below_alloc | apply pw_below_drewN | apply below_drew1) | exact HB.out))) : w.heap.size ≤ gb321)); have n3_ := Aside0.mk ((by rw [hg]; exact (below_size (by repeat (first | (with_reducible first | exact HB.out | apply below_alloc | apply pw_below_drewN | apply below_drew1) | exact HB.out))) : w.heap.size ≤ gb321)); clear HB; have HB := n0_; have BK321 := n1_; have GW321 := n2_; have GE321 := n3_; clear n0_ n1_ n2_ n3_; clear hb hbox hg; have hcz11_0 : w10.cell? ⟨gb321, 0, none⟩ = some (.slice A0_0 l0_0.length c0_0) := (blk_cell BK321.out 0).trans rfl; have hfz11_0 := blk_frozen BK321.out 0) | ((with_reducible refine gate_dst (N := 21) rfl ?_); (try (refine gate_guard (by rfl) ?_; dsimp only)); refine Kd.R_make (Kd.int .i64) _ 3 rfl (N := 21) rfl 108 _ _ rfl (l0_0.length : Int) rfl rfl Tryd.underlying108 (.int .i64 0) 8 info3 rfl (by decide) (by omega) 0 (ok := fun _ => True) (okp := fun _ => True) rfl (fun _ hk => hk) trivial (of_decide_eq_true (by first | (with_reducible assumption) | assumption)) (Nat.le_trans (Nat.mul_le_mul_right _ (of_decide_eq_true (by first | (with_reducible assumption) | assumption) : (l0_0.length : Int).toNat ≤ 35184372088832)) (by omega)) (Below.refl _ _) (Nat.le_refl _) ?_; intro v323 w12 ho13 hb hg_ hnew_; clear hg_ hnew_; (first | rw [← Ny322.out] at ho13 | (simp only [Int.reduceToNat] at ho13; rw [← Ny322.out] at ho13)); have n0_ := Aside0.mk (Kd.R_lower ho13 (below_size (by repeat (first | (with_reducible first | exact HB.out | apply below_alloc | apply pw_below_drewN | apply below_drew1 | refine below_set ?_ GE321.out) | exact HB.out)))); have n1_ := Aside0.mk (blk_below (g := gb321) (o := .cells #[.slice A0_0 l0_0.length c0_0] 32 (0, 0)) (by (with_reducible repeat (first | refine blk_drewN ?_ _ | refine blk_drew ?_ | refine blk_alloc ?_ _)); exact BK321.out) hb); have n2_ := Aside0.mk (below_step (by repeat (first | (with_reducible first | exact HB.out | apply below_alloc | apply pw_below_drewN | apply below_drew1 | refine below_set ?_ GE321.out) | exact HB.out)) hb); clear BK321; clear HB; have HO324 := n0_; have BK321 := n1_; have HB := n2_; clear n0_ n1_ n2_; clear hb ho13; have hcz14_0 : w12.cell? ⟨gb321, 0, none⟩ = some (.slice A0_0 l0_0.length c0_0) := (blk_cell BK321.out 0).trans rfl; have hfz14_0 := blk_frozen BK321.out 0))
          go_loopg [25] k (fun kq v25 w' => ∃ (x4_1 : List Int) (x25_1 : Int), v25 = .int .i64 x25_1 ∧ Aside0 (trie_Check.l0 kq x4_1 l0_0 (l0_0.length : Int) x25_1 l0_0 = some r) ∧ Aside0 (kq ≤ k) ∧ Aside0 (Kd.R (Kd.int .i64) 3 w' w.heap.size (fun _ => True) v323 x4_1) ∧ Aside0 (w'.heap[gb321]? = some (.cells #[(.slice A0_0 l0_0.length c0_0)] 32 (0, 0))) ∧ Aside0 (Below w.heap.size w w'))
          case atStart => exact ⟨(y322), (0), (by first | rfl | (simp; done) | (simp [*]; done)), H', ⟨Nat.le_refl _⟩, ⟨by (with_reducible repeat (first | apply Kd.R_alloc | apply Kd.R_drewN | apply Kd.R_drew)); exact HO324.out⟩, ⟨by (with_reducible repeat (first | refine blk_drewN ?_ _ | refine blk_drew ?_ | refine blk_alloc ?_ _)); exact BK321.out⟩, ⟨by repeat (first | (with_reducible first | exact HB.out | apply below_alloc | apply pw_below_drewN | apply below_drew1 | refine below_set ?_ GE321.out) | exact HB.out)⟩⟩
          case round =>
            clear H'
            try clear c2
            try clear c2b0
            try clear c2b1
            try clear p2
            try clear c4
            try clear c5
            try clear c5b0
            try clear c5b1
            try clear c5b2
            try clear c8
            try clear c8b0
            try clear c8b1
            try clear c9
            try clear c9b0
            try clear c9b1
            try clear hcz11_0
            try clear hcz14_0
            try clear hcz4_0
            try clear hcz7_0
            try clear hfz11_0
            try clear hfz14_0
            try clear hfz4_0
            try clear hfz7_0
            obtain ⟨x4_1, x25_1, rfl, HA, HK1, HO_4, BK321, HB⟩ := hrel
            cases gk with
            | zero => exact absurd HA.out (by simp [trie_Check.l0])
            | succ k1 =>
              have H := HA.out
              clear HA
              simp only [trie_Check.l0] at H
              by_cases c15 : x25_1 < (l0_0.length : Int)
              · rw [if_pos c15] at H
                have c15b0 : decide (x25_1 < (l0_0.length : Int)) = true := decide_eq_true c15
                clear c15
                by_cases c16 : 0 ≤ x25_1
                · rw [if_pos c16] at H
                  have c16b0 : decide (0 ≤ x25_1) = true := decide_eq_true c16
                  clear c16
                  by_cases c17 : x25_1 < (l0_0.length : Int)
                  · rw [if_pos c17] at H
                    have c17b0 : decide (x25_1 < (l0_0.length : Int)) = true := decide_eq_true c17
                    clear c17
                    have HC18 := Aside0.mk H
                    clear H
                    have p325 : 0 ≤ (x25_1 : Int) := of_decide_eq_true (by first | (with_reducible assumption) | assumption)
                    have q325 : x25_1 < (l0_0.length : Int) := of_decide_eq_true (by first | (with_reducible assumption) | assumption)
                    obtain ⟨ad325, e325, hx325_0, hx325_1, hx325_2, hx325_3, hx325_4, hx325_5, hx325_6, hx325_7, hx325_8, hx325_9, hx325_10⟩ := at_T77 HR0_0.out x25_1 p325 q325
                    cases e325
                    replace hx325_0 := (HB.out.cell (World.block_lt_of_cell? w _ hx325_0)).trans hx325_0
                    replace hx325_1 := (HB.out.cell (World.block_lt_of_cell? w _ hx325_1)).trans hx325_1
                    replace hx325_2 := (HB.out.cell (World.block_lt_of_cell? w _ hx325_2)).trans hx325_2
                    replace hx325_3 := (HB.out.cell (World.block_lt_of_cell? w _ hx325_3)).trans hx325_3
                    replace hx325_4 := (HB.out.cell (World.block_lt_of_cell? w _ hx325_4)).trans hx325_4
                    replace hx325_5 := (HB.out.cell (World.block_lt_of_cell? w _ hx325_5)).trans hx325_5
                    replace hx325_6 := (HB.out.cell (World.block_lt_of_cell? w _ hx325_6)).trans hx325_6
                    replace hx325_7 := (HB.out.cell (World.block_lt_of_cell? w _ hx325_7)).trans hx325_7
                    replace hx325_8 := (HB.out.cell (World.block_lt_of_cell? w _ hx325_8)).trans hx325_8
                    replace hx325_9 := (HB.out.cell (World.block_lt_of_cell? w _ hx325_9)).trans hx325_9
                    replace hx325_10 := (HB.out.cell (World.block_lt_of_cell? w _ hx325_10)).trans hx325_10
                    replace p325 := eq_true p325
                    replace q325 := eq_true q325
                    go_upto_region 10 with (first | ((with_reducible refine gate_dst (N := 6) rfl ?_); (try (refine gate_guard (by rfl) ?_; dsimp only)); refine box_event ?hg (N := 6) ?hd (cs := #[.int .i64 0, .int .i64 0, .int .i64 0, .int .i64 0, .int .i64 0, .int .i64 0, .int .i64 0, .int .i64 0, .int .i64 0, .int .i64 0, .int .i64 0]) (t := 77) ?hr ?_; (case hd => rfl); (case hg => rfl); (case hr => first | (go_simp; done) | (go_simp; rfl)); intro gb326 hg w19 hbox hb; have n0_ := Aside0.mk (Kd.R_below (by (with_reducible repeat (first | apply Kd.R_alloc | apply Kd.R_drewN | apply Kd.R_drew)); exact HO_4.out) hb); have n1_ := Aside0.mk (blk_below (g := gb321) (o := .cells #[.slice (some ad325) l0_0.length c0_0] 32 (0, 0)) (by (with_reducible repeat (first | refine blk_drewN ?_ _ | refine blk_drew ?_ | refine blk_alloc ?_ _)); exact BK321.out) hb); have n2_ := Aside0.mk (below_step (by repeat (first | (with_reducible first | exact HB.out | apply below_alloc | apply pw_below_drewN | apply below_drew1 | refine below_set ?_ GE321.out) | exact HB.out)) hb); have n3_ := Aside0.mk (hbox); have n4_ := Aside0.mk ((by rw [hg]; exact (below_size (by repeat (first | (with_reducible first | exact HB.out | apply below_alloc | apply pw_below_drewN | apply below_drew1 | refine below_set ?_ GE321.out) | exact HB.out))) : w.heap.size ≤ gb326)); have n5_ := Aside0.mk ((by rw [hg]; exact (below_size (by repeat (first | (with_reducible first | exact HB.out | apply below_alloc | apply pw_below_drewN | apply below_drew1 | refine below_set ?_ GE321.out) | exact HB.out))) : w.heap.size ≤ gb326)); have n6_ := Aside0.mk ((by rw [hg]; exact Nat.ne_of_lt (blk_lt (g := gb321) (o := .cells #[.slice (some ad325) l0_0.length c0_0] 32 (0, 0)) (by (with_reducible repeat (first | refine blk_drewN ?_ _ | refine blk_drew ?_ | refine blk_alloc ?_ _)); exact BK321.out)) : gb321 ≠ gb326)); have n7_ := Aside0.mk ((by rw [hg]; exact Nat.ne_of_gt (blk_lt (g := gb321) (o := .cells #[.slice (some ad325) l0_0.length c0_0] 32 (0, 0)) (by (with_reducible repeat (first | refine blk_drewN ?_ _ | refine blk_drew ?_ | refine blk_alloc ?_ _)); exact BK321.out)) : gb326 ≠ gb321)); clear HO_4; clear BK321; clear HB; have HO_4 := n0_; have BK321 := n1_; have HB := n2_; have BK326 := n3_; have GW326 := n4_; have GE326 := n5_; have NB321_326 := n6_; have NB326_321 := n7_; clear n0_ n1_ n2_ n3_ n4_ n5_ n6_ n7_; clear hb hbox hg; have hnb20 := NB326_321.out; have hnc20 := NB321_326.out; have hcz21_0 : w19.cell? ⟨gb326, 0, none⟩ = some (.int .i64 0) := (blk_cell BK326.out 0).trans rfl; have hcz21_1 : w19.cell? ⟨gb326, 1, none⟩ = some (.int .i64 0) := (blk_cell BK326.out 1).trans rfl; have hcz21_2 : w19.cell? ⟨gb326, 2, none⟩ = some (.int .i64 0) := (blk_cell BK326.out 2).trans rfl; have hcz21_3 : w19.cell? ⟨gb326, 3, none⟩ = some (.int .i64 0) := (blk_cell BK326.out 3).trans rfl; have hcz21_4 : w19.cell? ⟨gb326, 4, none⟩ = some (.int .i64 0) := (blk_cell BK326.out 4).trans rfl; have hcz21_5 : w19.cell? ⟨gb326, 5, none⟩ = some (.int .i64 0) := (blk_cell BK326.out 5).trans rfl; have hcz21_6 : w19.cell? ⟨gb326, 6, none⟩ = some (.int .i64 0) := (blk_cell BK326.out 6).trans rfl; have hcz21_7 : w19.cell? ⟨gb326, 7, none⟩ = some (.int .i64 0) := (blk_cell BK326.out 7).trans rfl; have hcz21_8 : w19.cell? ⟨gb326, 8, none⟩ = some (.int .i64 0) := (blk_cell BK326.out 8).trans rfl; have hcz21_9 : w19.cell? ⟨gb326, 9, none⟩ = some (.int .i64 0) := (blk_cell BK326.out 9).trans rfl; have hcz21_10 : w19.cell? ⟨gb326, 10, none⟩ = some (.int .i64 0) := (blk_cell BK326.out 10).trans rfl; have hfz21_0 := blk_frozen BK326.out 0; have hfz21_1 := blk_frozen BK326.out 1; have hfz21_2 := blk_frozen BK326.out 2; have hfz21_3 := blk_frozen BK326.out 3; have hfz21_4 := blk_frozen BK326.out 4; have hfz21_5 := blk_frozen BK326.out 5; have hfz21_6 := blk_frozen BK326.out 6; have hfz21_7 := blk_frozen BK326.out 7; have hfz21_8 := blk_frozen BK326.out 8; have hfz21_9 := blk_frozen BK326.out 9; have hfz21_10 := blk_frozen BK326.out 10))
                    (try simp only [Act.put, List.setIfInBounds_toArray, List.set_cons_zero, List.set_cons_succ])
                    go_cut [48] (fun v48 wc => ∃ (kq : Nat) (x48_17 : Bool), v48 = .bool x48_17 ∧ Aside0 (trie_Check.j1 kq x4_1 x25_1 l0_0 (l0_0.length : Int) x25_1 x48_17 l0_0 ((rd_T77 l0_0 x25_1).f0.f0) ((rd_T77 l0_0 x25_1).f0.f1) ((rd_T77 l0_0 x25_1).f0.f2) ((rd_T77 l0_0 x25_1).f0.f3) ((rd_T77 l0_0 x25_1).f0.f4) ((rd_T77 l0_0 x25_1).f0.f5) ((rd_T77 l0_0 x25_1).f0.f6) ((rd_T77 l0_0 x25_1).f0.f7) ((rd_T77 l0_0 x25_1).f0.f8) ((rd_T77 l0_0 x25_1).f0.f9) ((rd_T77 l0_0 x25_1).f1) = some r) ∧ Aside0 (kq ≤ k1) ∧ Aside0 (Kd.R (Kd.int .i64) 3 wc w.heap.size (fun _ => True) v323 x4_1) ∧ Aside0 (wc.heap[gb321]? = some (.cells #[(.slice (some ad325) l0_0.length c0_0)] 32 (0, 0))) ∧ Aside0 (wc.heap[gb326]? = some (.cells #[.int .i64 ((rd_T77 l0_0 x25_1).f0.f0), .int .i64 ((rd_T77 l0_0 x25_1).f0.f1), .int .i64 ((rd_T77 l0_0 x25_1).f0.f2), .int .i64 ((rd_T77 l0_0 x25_1).f0.f3), .int .i64 ((rd_T77 l0_0 x25_1).f0.f4), .int .i64 ((rd_T77 l0_0 x25_1).f0.f5), .int .i64 ((rd_T77 l0_0 x25_1).f0.f6), .int .i64 ((rd_T77 l0_0 x25_1).f0.f7), .int .i64 ((rd_T77 l0_0 x25_1).f0.f8), .int .i64 ((rd_T77 l0_0 x25_1).f0.f9), .int .i64 ((rd_T77 l0_0 x25_1).f1)] 77 (0, 0))) ∧ Aside0 (Below w.heap.size w wc))
                    case first =>
                      have H := HC18.out
                      clear HC18
                      by_cases c22 : ((rd_T77 l0_0 x25_1).f1) < 0
                      · rw [if_pos c22] at H
                        have c22b0 : decide (((rd_T77 l0_0 x25_1).f1) < 0) = true := decide_eq_true c22
                        clear c22
                        (first | rw [c22b0] | (simp only [i64_w, i32_w]; rw [c22b0]) | skip)
                        have H' := Aside0.mk H
                        clear H
                        have hnb23 := NB326_321.out
                        have hnc23 := NB321_326.out
                        have hcz24_0 : w19.cell? ⟨gb326, 0, none⟩ = some (.int .i64 0) := (blk_cell BK326.out 0).trans rfl
                        have hcz24_1 : w19.cell? ⟨gb326, 1, none⟩ = some (.int .i64 0) := (blk_cell BK326.out 1).trans rfl
                        have hcz24_2 : w19.cell? ⟨gb326, 2, none⟩ = some (.int .i64 0) := (blk_cell BK326.out 2).trans rfl
                        have hcz24_3 : w19.cell? ⟨gb326, 3, none⟩ = some (.int .i64 0) := (blk_cell BK326.out 3).trans rfl
                        have hcz24_4 : w19.cell? ⟨gb326, 4, none⟩ = some (.int .i64 0) := (blk_cell BK326.out 4).trans rfl
                        have hcz24_5 : w19.cell? ⟨gb326, 5, none⟩ = some (.int .i64 0) := (blk_cell BK326.out 5).trans rfl
                        have hcz24_6 : w19.cell? ⟨gb326, 6, none⟩ = some (.int .i64 0) := (blk_cell BK326.out 6).trans rfl
                        have hcz24_7 : w19.cell? ⟨gb326, 7, none⟩ = some (.int .i64 0) := (blk_cell BK326.out 7).trans rfl
                        have hcz24_8 : w19.cell? ⟨gb326, 8, none⟩ = some (.int .i64 0) := (blk_cell BK326.out 8).trans rfl
                        have hcz24_9 : w19.cell? ⟨gb326, 9, none⟩ = some (.int .i64 0) := (blk_cell BK326.out 9).trans rfl
                        have hcz24_10 : w19.cell? ⟨gb326, 10, none⟩ = some (.int .i64 0) := (blk_cell BK326.out 10).trans rfl
                        have hfz24_0 := blk_frozen BK326.out 0
                        have hfz24_1 := blk_frozen BK326.out 1
                        have hfz24_2 := blk_frozen BK326.out 2
                        have hfz24_3 := blk_frozen BK326.out 3
                        have hfz24_4 := blk_frozen BK326.out 4
                        have hfz24_5 := blk_frozen BK326.out 5
                        have hfz24_6 := blk_frozen BK326.out 6
                        have hfz24_7 := blk_frozen BK326.out 7
                        have hfz24_8 := blk_frozen BK326.out 8
                        have hfz24_9 := blk_frozen BK326.out 9
                        have hfz24_10 := blk_frozen BK326.out 10
                        go_wp2
                        go_meet
                        case rel => exact ⟨_, (true), (by first | rfl | (simp; done) | (simp [*]; done)), H', ⟨by have := HK1.out; first | omega | exact Nat.le_refl _⟩, ⟨by (with_reducible repeat (first | apply Kd.R_alloc | apply Kd.R_drewN | apply Kd.R_drew)); exact Kd.R_mono (Kd.R_far (p := ⟨gb326, 10, none⟩) (Kd.R_far (p := ⟨gb326, 9, none⟩) (Kd.R_far (p := ⟨gb326, 8, none⟩) (Kd.R_far (p := ⟨gb326, 7, none⟩) (Kd.R_far (p := ⟨gb326, 6, none⟩) (Kd.R_far (p := ⟨gb326, 5, none⟩) (Kd.R_far (p := ⟨gb326, 4, none⟩) (Kd.R_far (p := ⟨gb326, 3, none⟩) (Kd.R_far (p := ⟨gb326, 2, none⟩) (Kd.R_far (p := ⟨gb326, 1, none⟩) (Kd.R_far (p := ⟨gb326, 0, none⟩) (Kd.R_types HO_4.out BK326.out (by decide)) (fun _ hk => hk.2) (.int .i64 ((rd_T77 l0_0 x25_1).f0.f0))) (fun _ hk => hk.2) (.int .i64 ((rd_T77 l0_0 x25_1).f0.f1))) (fun _ hk => hk.2) (.int .i64 ((rd_T77 l0_0 x25_1).f0.f2))) (fun _ hk => hk.2) (.int .i64 ((rd_T77 l0_0 x25_1).f0.f3))) (fun _ hk => hk.2) (.int .i64 ((rd_T77 l0_0 x25_1).f0.f4))) (fun _ hk => hk.2) (.int .i64 ((rd_T77 l0_0 x25_1).f0.f5))) (fun _ hk => hk.2) (.int .i64 ((rd_T77 l0_0 x25_1).f0.f6))) (fun _ hk => hk.2) (.int .i64 ((rd_T77 l0_0 x25_1).f0.f7))) (fun _ hk => hk.2) (.int .i64 ((rd_T77 l0_0 x25_1).f0.f8))) (fun _ hk => hk.2) (.int .i64 ((rd_T77 l0_0 x25_1).f0.f9))) (fun _ hk => hk.2) (.int .i64 ((rd_T77 l0_0 x25_1).f1))) (fun _ hk => trivial)⟩, ⟨by (with_reducible repeat (first | refine blk_drewN ?_ _ | refine blk_drew ?_ | refine blk_alloc ?_ _)); refine blk_far ?_ NB321_326.out _; (with_reducible repeat (first | refine blk_drewN ?_ _ | refine blk_drew ?_ | refine blk_alloc ?_ _)); refine blk_far ?_ NB321_326.out _; (with_reducible repeat (first | refine blk_drewN ?_ _ | refine blk_drew ?_ | refine blk_alloc ?_ _)); refine blk_far ?_ NB321_326.out _; (with_reducible repeat (first | refine blk_drewN ?_ _ | refine blk_drew ?_ | refine blk_alloc ?_ _)); refine blk_far ?_ NB321_326.out _; (with_reducible repeat (first | refine blk_drewN ?_ _ | refine blk_drew ?_ | refine blk_alloc ?_ _)); refine blk_far ?_ NB321_326.out _; (with_reducible repeat (first | refine blk_drewN ?_ _ | refine blk_drew ?_ | refine blk_alloc ?_ _)); refine blk_far ?_ NB321_326.out _; (with_reducible repeat (first | refine blk_drewN ?_ _ | refine blk_drew ?_ | refine blk_alloc ?_ _)); refine blk_far ?_ NB321_326.out _; (with_reducible repeat (first | refine blk_drewN ?_ _ | refine blk_drew ?_ | refine blk_alloc ?_ _)); refine blk_far ?_ NB321_326.out _; (with_reducible repeat (first | refine blk_drewN ?_ _ | refine blk_drew ?_ | refine blk_alloc ?_ _)); refine blk_far ?_ NB321_326.out _; (with_reducible repeat (first | refine blk_drewN ?_ _ | refine blk_drew ?_ | refine blk_alloc ?_ _)); refine blk_far ?_ NB321_326.out _; (with_reducible repeat (first | refine blk_drewN ?_ _ | refine blk_drew ?_ | refine blk_alloc ?_ _)); refine blk_far ?_ NB321_326.out _; (with_reducible repeat (first | refine blk_drewN ?_ _ | refine blk_drew ?_ | refine blk_alloc ?_ _)); exact BK321.out⟩, ⟨by (with_reducible repeat (first | refine blk_drewN ?_ _ | refine blk_drew ?_ | refine blk_alloc ?_ _)); refine blk_put (cs := #[.int .i64 ((rd_T77 l0_0 x25_1).f0.f0), .int .i64 ((rd_T77 l0_0 x25_1).f0.f1), .int .i64 ((rd_T77 l0_0 x25_1).f0.f2), .int .i64 ((rd_T77 l0_0 x25_1).f0.f3), .int .i64 ((rd_T77 l0_0 x25_1).f0.f4), .int .i64 ((rd_T77 l0_0 x25_1).f0.f5), .int .i64 ((rd_T77 l0_0 x25_1).f0.f6), .int .i64 ((rd_T77 l0_0 x25_1).f0.f7), .int .i64 ((rd_T77 l0_0 x25_1).f0.f8), .int .i64 ((rd_T77 l0_0 x25_1).f0.f9), .int .i64 0]) ?_ 10 _ rfl; (with_reducible repeat (first | refine blk_drewN ?_ _ | refine blk_drew ?_ | refine blk_alloc ?_ _)); refine blk_put (cs := #[.int .i64 ((rd_T77 l0_0 x25_1).f0.f0), .int .i64 ((rd_T77 l0_0 x25_1).f0.f1), .int .i64 ((rd_T77 l0_0 x25_1).f0.f2), .int .i64 ((rd_T77 l0_0 x25_1).f0.f3), .int .i64 ((rd_T77 l0_0 x25_1).f0.f4), .int .i64 ((rd_T77 l0_0 x25_1).f0.f5), .int .i64 ((rd_T77 l0_0 x25_1).f0.f6), .int .i64 ((rd_T77 l0_0 x25_1).f0.f7), .int .i64 ((rd_T77 l0_0 x25_1).f0.f8), .int .i64 0, .int .i64 0]) ?_ 9 _ rfl; (with_reducible repeat (first | refine blk_drewN ?_ _ | refine blk_drew ?_ | refine blk_alloc ?_ _)); refine blk_put (cs := #[.int .i64 ((rd_T77 l0_0 x25_1).f0.f0), .int .i64 ((rd_T77 l0_0 x25_1).f0.f1), .int .i64 ((rd_T77 l0_0 x25_1).f0.f2), .int .i64 ((rd_T77 l0_0 x25_1).f0.f3), .int .i64 ((rd_T77 l0_0 x25_1).f0.f4), .int .i64 ((rd_T77 l0_0 x25_1).f0.f5), .int .i64 ((rd_T77 l0_0 x25_1).f0.f6), .int .i64 ((rd_T77 l0_0 x25_1).f0.f7), .int .i64 0, .int .i64 0, .int .i64 0]) ?_ 8 _ rfl; (with_reducible repeat (first | refine blk_drewN ?_ _ | refine blk_drew ?_ | refine blk_alloc ?_ _)); refine blk_put (cs := #[.int .i64 ((rd_T77 l0_0 x25_1).f0.f0), .int .i64 ((rd_T77 l0_0 x25_1).f0.f1), .int .i64 ((rd_T77 l0_0 x25_1).f0.f2), .int .i64 ((rd_T77 l0_0 x25_1).f0.f3), .int .i64 ((rd_T77 l0_0 x25_1).f0.f4), .int .i64 ((rd_T77 l0_0 x25_1).f0.f5), .int .i64 ((rd_T77 l0_0 x25_1).f0.f6), .int .i64 0, .int .i64 0, .int .i64 0, .int .i64 0]) ?_ 7 _ rfl; (with_reducible repeat (first | refine blk_drewN ?_ _ | refine blk_drew ?_ | refine blk_alloc ?_ _)); refine blk_put (cs := #[.int .i64 ((rd_T77 l0_0 x25_1).f0.f0), .int .i64 ((rd_T77 l0_0 x25_1).f0.f1), .int .i64 ((rd_T77 l0_0 x25_1).f0.f2), .int .i64 ((rd_T77 l0_0 x25_1).f0.f3), .int .i64 ((rd_T77 l0_0 x25_1).f0.f4), .int .i64 ((rd_T77 l0_0 x25_1).f0.f5), .int .i64 0, .int .i64 0, .int .i64 0, .int .i64 0, .int .i64 0]) ?_ 6 _ rfl; (with_reducible repeat (first | refine blk_drewN ?_ _ | refine blk_drew ?_ | refine blk_alloc ?_ _)); refine blk_put (cs := #[.int .i64 ((rd_T77 l0_0 x25_1).f0.f0), .int .i64 ((rd_T77 l0_0 x25_1).f0.f1), .int .i64 ((rd_T77 l0_0 x25_1).f0.f2), .int .i64 ((rd_T77 l0_0 x25_1).f0.f3), .int .i64 ((rd_T77 l0_0 x25_1).f0.f4), .int .i64 0, .int .i64 0, .int .i64 0, .int .i64 0, .int .i64 0, .int .i64 0]) ?_ 5 _ rfl; (with_reducible repeat (first | refine blk_drewN ?_ _ | refine blk_drew ?_ | refine blk_alloc ?_ _)); refine blk_put (cs := #[.int .i64 ((rd_T77 l0_0 x25_1).f0.f0), .int .i64 ((rd_T77 l0_0 x25_1).f0.f1), .int .i64 ((rd_T77 l0_0 x25_1).f0.f2), .int .i64 ((rd_T77 l0_0 x25_1).f0.f3), .int .i64 0, .int .i64 0, .int .i64 0, .int .i64 0, .int .i64 0, .int .i64 0, .int .i64 0]) ?_ 4 _ rfl; (with_reducible repeat (first | refine blk_drewN ?_ _ | refine blk_drew ?_ | refine blk_alloc ?_ _)); refine blk_put (cs := #[.int .i64 ((rd_T77 l0_0 x25_1).f0.f0), .int .i64 ((rd_T77 l0_0 x25_1).f0.f1), .int .i64 ((rd_T77 l0_0 x25_1).f0.f2), .int .i64 0, .int .i64 0, .int .i64 0, .int .i64 0, .int .i64 0, .int .i64 0, .int .i64 0, .int .i64 0]) ?_ 3 _ rfl; (with_reducible repeat (first | refine blk_drewN ?_ _ | refine blk_drew ?_ | refine blk_alloc ?_ _)); refine blk_put (cs := #[.int .i64 ((rd_T77 l0_0 x25_1).f0.f0), .int .i64 ((rd_T77 l0_0 x25_1).f0.f1), .int .i64 0, .int .i64 0, .int .i64 0, .int .i64 0, .int .i64 0, .int .i64 0, .int .i64 0, .int .i64 0, .int .i64 0]) ?_ 2 _ rfl; (with_reducible repeat (first | refine blk_drewN ?_ _ | refine blk_drew ?_ | refine blk_alloc ?_ _)); refine blk_put (cs := #[.int .i64 ((rd_T77 l0_0 x25_1).f0.f0), .int .i64 0, .int .i64 0, .int .i64 0, .int .i64 0, .int .i64 0, .int .i64 0, .int .i64 0, .int .i64 0, .int .i64 0, .int .i64 0]) ?_ 1 _ rfl; (with_reducible repeat (first | refine blk_drewN ?_ _ | refine blk_drew ?_ | refine blk_alloc ?_ _)); refine blk_put (cs := #[.int .i64 0, .int .i64 0, .int .i64 0, .int .i64 0, .int .i64 0, .int .i64 0, .int .i64 0, .int .i64 0, .int .i64 0, .int .i64 0, .int .i64 0]) ?_ 0 _ rfl; (with_reducible repeat (first | refine blk_drewN ?_ _ | refine blk_drew ?_ | refine blk_alloc ?_ _)); exact BK326.out⟩, ⟨by repeat (first | (with_reducible first | exact HB.out | apply below_alloc | apply pw_below_drewN | apply below_drew1 | refine below_set ?_ GE321.out | refine below_set ?_ GE326.out) | exact HB.out)⟩⟩
                      · rw [if_neg c22] at H
                        have c22b0 : decide (((rd_T77 l0_0 x25_1).f1) < 0) = false := decide_eq_false c22
                        clear c22
                        (first | rw [c22b0] | (simp only [i64_w, i32_w]; rw [c22b0]) | skip)
                        by_cases c25 : ((rd_T77 l0_0 x25_1).f1) > 1099511627776
                        · rw [if_pos c25] at H
                          have c25b0 : decide (1099511627776 < ((rd_T77 l0_0 x25_1).f1)) = true := decide_eq_true c25
                          clear c25
                          have H' := Aside0.mk H
                          clear H
                          have hnb26 := NB326_321.out
                          have hnc26 := NB321_326.out
                          have hcz27_0 : w19.cell? ⟨gb326, 0, none⟩ = some (.int .i64 0) := (blk_cell BK326.out 0).trans rfl
                          have hcz27_1 : w19.cell? ⟨gb326, 1, none⟩ = some (.int .i64 0) := (blk_cell BK326.out 1).trans rfl
                          have hcz27_2 : w19.cell? ⟨gb326, 2, none⟩ = some (.int .i64 0) := (blk_cell BK326.out 2).trans rfl
                          have hcz27_3 : w19.cell? ⟨gb326, 3, none⟩ = some (.int .i64 0) := (blk_cell BK326.out 3).trans rfl
                          have hcz27_4 : w19.cell? ⟨gb326, 4, none⟩ = some (.int .i64 0) := (blk_cell BK326.out 4).trans rfl
                          have hcz27_5 : w19.cell? ⟨gb326, 5, none⟩ = some (.int .i64 0) := (blk_cell BK326.out 5).trans rfl
                          have hcz27_6 : w19.cell? ⟨gb326, 6, none⟩ = some (.int .i64 0) := (blk_cell BK326.out 6).trans rfl
                          have hcz27_7 : w19.cell? ⟨gb326, 7, none⟩ = some (.int .i64 0) := (blk_cell BK326.out 7).trans rfl
                          have hcz27_8 : w19.cell? ⟨gb326, 8, none⟩ = some (.int .i64 0) := (blk_cell BK326.out 8).trans rfl
                          have hcz27_9 : w19.cell? ⟨gb326, 9, none⟩ = some (.int .i64 0) := (blk_cell BK326.out 9).trans rfl
                          have hcz27_10 : w19.cell? ⟨gb326, 10, none⟩ = some (.int .i64 0) := (blk_cell BK326.out 10).trans rfl
                          have hfz27_0 := blk_frozen BK326.out 0
                          have hfz27_1 := blk_frozen BK326.out 1
                          have hfz27_2 := blk_frozen BK326.out 2
                          have hfz27_3 := blk_frozen BK326.out 3
                          have hfz27_4 := blk_frozen BK326.out 4
                          have hfz27_5 := blk_frozen BK326.out 5
                          have hfz27_6 := blk_frozen BK326.out 6
                          have hfz27_7 := blk_frozen BK326.out 7
                          have hfz27_8 := blk_frozen BK326.out 8
                          have hfz27_9 := blk_frozen BK326.out 9
                          have hfz27_10 := blk_frozen BK326.out 10
                          go_wp2
                          go_meet
                          case rel => exact ⟨_, (true), (by first | rfl | (simp; done) | (simp [*]; done)), H', ⟨by have := HK1.out; first | omega | exact Nat.le_refl _⟩, ⟨by (with_reducible repeat (first | apply Kd.R_alloc | apply Kd.R_drewN | apply Kd.R_drew)); exact Kd.R_mono (Kd.R_far (p := ⟨gb326, 10, none⟩) (Kd.R_far (p := ⟨gb326, 9, none⟩) (Kd.R_far (p := ⟨gb326, 8, none⟩) (Kd.R_far (p := ⟨gb326, 7, none⟩) (Kd.R_far (p := ⟨gb326, 6, none⟩) (Kd.R_far (p := ⟨gb326, 5, none⟩) (Kd.R_far (p := ⟨gb326, 4, none⟩) (Kd.R_far (p := ⟨gb326, 3, none⟩) (Kd.R_far (p := ⟨gb326, 2, none⟩) (Kd.R_far (p := ⟨gb326, 1, none⟩) (Kd.R_far (p := ⟨gb326, 0, none⟩) (Kd.R_types HO_4.out BK326.out (by decide)) (fun _ hk => hk.2) (.int .i64 ((rd_T77 l0_0 x25_1).f0.f0))) (fun _ hk => hk.2) (.int .i64 ((rd_T77 l0_0 x25_1).f0.f1))) (fun _ hk => hk.2) (.int .i64 ((rd_T77 l0_0 x25_1).f0.f2))) (fun _ hk => hk.2) (.int .i64 ((rd_T77 l0_0 x25_1).f0.f3))) (fun _ hk => hk.2) (.int .i64 ((rd_T77 l0_0 x25_1).f0.f4))) (fun _ hk => hk.2) (.int .i64 ((rd_T77 l0_0 x25_1).f0.f5))) (fun _ hk => hk.2) (.int .i64 ((rd_T77 l0_0 x25_1).f0.f6))) (fun _ hk => hk.2) (.int .i64 ((rd_T77 l0_0 x25_1).f0.f7))) (fun _ hk => hk.2) (.int .i64 ((rd_T77 l0_0 x25_1).f0.f8))) (fun _ hk => hk.2) (.int .i64 ((rd_T77 l0_0 x25_1).f0.f9))) (fun _ hk => hk.2) (.int .i64 ((rd_T77 l0_0 x25_1).f1))) (fun _ hk => trivial)⟩, ⟨by (with_reducible repeat (first | refine blk_drewN ?_ _ | refine blk_drew ?_ | refine blk_alloc ?_ _)); refine blk_far ?_ NB321_326.out _; (with_reducible repeat (first | refine blk_drewN ?_ _ | refine blk_drew ?_ | refine blk_alloc ?_ _)); refine blk_far ?_ NB321_326.out _; (with_reducible repeat (first | refine blk_drewN ?_ _ | refine blk_drew ?_ | refine blk_alloc ?_ _)); refine blk_far ?_ NB321_326.out _; (with_reducible repeat (first | refine blk_drewN ?_ _ | refine blk_drew ?_ | refine blk_alloc ?_ _)); refine blk_far ?_ NB321_326.out _; (with_reducible repeat (first | refine blk_drewN ?_ _ | refine blk_drew ?_ | refine blk_alloc ?_ _)); refine blk_far ?_ NB321_326.out _; (with_reducible repeat (first | refine blk_drewN ?_ _ | refine blk_drew ?_ | refine blk_alloc ?_ _)); refine blk_far ?_ NB321_326.out _; (with_reducible repeat (first | refine blk_drewN ?_ _ | refine blk_drew ?_ | refine blk_alloc ?_ _)); refine blk_far ?_ NB321_326.out _; (with_reducible repeat (first | refine blk_drewN ?_ _ | refine blk_drew ?_ | refine blk_alloc ?_ _)); refine blk_far ?_ NB321_326.out _; (with_reducible repeat (first | refine blk_drewN ?_ _ | refine blk_drew ?_ | refine blk_alloc ?_ _)); refine blk_far ?_ NB321_326.out _; (with_reducible repeat (first | refine blk_drewN ?_ _ | refine blk_drew ?_ | refine blk_alloc ?_ _)); refine blk_far ?_ NB321_326.out _; (with_reducible repeat (first | refine blk_drewN ?_ _ | refine blk_drew ?_ | refine blk_alloc ?_ _)); refine blk_far ?_ NB321_326.out _; (with_reducible repeat (first | refine blk_drewN ?_ _ | refine blk_drew ?_ | refine blk_alloc ?_ _)); exact BK321.out⟩, ⟨by (with_reducible repeat (first | refine blk_drewN ?_ _ | refine blk_drew ?_ | refine blk_alloc ?_ _)); refine blk_put (cs := #[.int .i64 ((rd_T77 l0_0 x25_1).f0.f0), .int .i64 ((rd_T77 l0_0 x25_1).f0.f1), .int .i64 ((rd_T77 l0_0 x25_1).f0.f2), .int .i64 ((rd_T77 l0_0 x25_1).f0.f3), .int .i64 ((rd_T77 l0_0 x25_1).f0.f4), .int .i64 ((rd_T77 l0_0 x25_1).f0.f5), .int .i64 ((rd_T77 l0_0 x25_1).f0.f6), .int .i64 ((rd_T77 l0_0 x25_1).f0.f7), .int .i64 ((rd_T77 l0_0 x25_1).f0.f8), .int .i64 ((rd_T77 l0_0 x25_1).f0.f9), .int .i64 0]) ?_ 10 _ rfl; (with_reducible repeat (first | refine blk_drewN ?_ _ | refine blk_drew ?_ | refine blk_alloc ?_ _)); refine blk_put (cs := #[.int .i64 ((rd_T77 l0_0 x25_1).f0.f0), .int .i64 ((rd_T77 l0_0 x25_1).f0.f1), .int .i64 ((rd_T77 l0_0 x25_1).f0.f2), .int .i64 ((rd_T77 l0_0 x25_1).f0.f3), .int .i64 ((rd_T77 l0_0 x25_1).f0.f4), .int .i64 ((rd_T77 l0_0 x25_1).f0.f5), .int .i64 ((rd_T77 l0_0 x25_1).f0.f6), .int .i64 ((rd_T77 l0_0 x25_1).f0.f7), .int .i64 ((rd_T77 l0_0 x25_1).f0.f8), .int .i64 0, .int .i64 0]) ?_ 9 _ rfl; (with_reducible repeat (first | refine blk_drewN ?_ _ | refine blk_drew ?_ | refine blk_alloc ?_ _)); refine blk_put (cs := #[.int .i64 ((rd_T77 l0_0 x25_1).f0.f0), .int .i64 ((rd_T77 l0_0 x25_1).f0.f1), .int .i64 ((rd_T77 l0_0 x25_1).f0.f2), .int .i64 ((rd_T77 l0_0 x25_1).f0.f3), .int .i64 ((rd_T77 l0_0 x25_1).f0.f4), .int .i64 ((rd_T77 l0_0 x25_1).f0.f5), .int .i64 ((rd_T77 l0_0 x25_1).f0.f6), .int .i64 ((rd_T77 l0_0 x25_1).f0.f7), .int .i64 0, .int .i64 0, .int .i64 0]) ?_ 8 _ rfl; (with_reducible repeat (first | refine blk_drewN ?_ _ | refine blk_drew ?_ | refine blk_alloc ?_ _)); refine blk_put (cs := #[.int .i64 ((rd_T77 l0_0 x25_1).f0.f0), .int .i64 ((rd_T77 l0_0 x25_1).f0.f1), .int .i64 ((rd_T77 l0_0 x25_1).f0.f2), .int .i64 ((rd_T77 l0_0 x25_1).f0.f3), .int .i64 ((rd_T77 l0_0 x25_1).f0.f4), .int .i64 ((rd_T77 l0_0 x25_1).f0.f5), .int .i64 ((rd_T77 l0_0 x25_1).f0.f6), .int .i64 0, .int .i64 0, .int .i64 0, .int .i64 0]) ?_ 7 _ rfl; (with_reducible repeat (first | refine blk_drewN ?_ _ | refine blk_drew ?_ | refine blk_alloc ?_ _)); refine blk_put (cs := #[.int .i64 ((rd_T77 l0_0 x25_1).f0.f0), .int .i64 ((rd_T77 l0_0 x25_1).f0.f1), .int .i64 ((rd_T77 l0_0 x25_1).f0.f2), .int .i64 ((rd_T77 l0_0 x25_1).f0.f3), .int .i64 ((rd_T77 l0_0 x25_1).f0.f4), .int .i64 ((rd_T77 l0_0 x25_1).f0.f5), .int .i64 0, .int .i64 0, .int .i64 0, .int .i64 0, .int .i64 0]) ?_ 6 _ rfl; (with_reducible repeat (first | refine blk_drewN ?_ _ | refine blk_drew ?_ | refine blk_alloc ?_ _)); refine blk_put (cs := #[.int .i64 ((rd_T77 l0_0 x25_1).f0.f0), .int .i64 ((rd_T77 l0_0 x25_1).f0.f1), .int .i64 ((rd_T77 l0_0 x25_1).f0.f2), .int .i64 ((rd_T77 l0_0 x25_1).f0.f3), .int .i64 ((rd_T77 l0_0 x25_1).f0.f4), .int .i64 0, .int .i64 0, .int .i64 0, .int .i64 0, .int .i64 0, .int .i64 0]) ?_ 5 _ rfl; (with_reducible repeat (first | refine blk_drewN ?_ _ | refine blk_drew ?_ | refine blk_alloc ?_ _)); refine blk_put (cs := #[.int .i64 ((rd_T77 l0_0 x25_1).f0.f0), .int .i64 ((rd_T77 l0_0 x25_1).f0.f1), .int .i64 ((rd_T77 l0_0 x25_1).f0.f2), .int .i64 ((rd_T77 l0_0 x25_1).f0.f3), .int .i64 0, .int .i64 0, .int .i64 0, .int .i64 0, .int .i64 0, .int .i64 0, .int .i64 0]) ?_ 4 _ rfl; (with_reducible repeat (first | refine blk_drewN ?_ _ | refine blk_drew ?_ | refine blk_alloc ?_ _)); refine blk_put (cs := #[.int .i64 ((rd_T77 l0_0 x25_1).f0.f0), .int .i64 ((rd_T77 l0_0 x25_1).f0.f1), .int .i64 ((rd_T77 l0_0 x25_1).f0.f2), .int .i64 0, .int .i64 0, .int .i64 0, .int .i64 0, .int .i64 0, .int .i64 0, .int .i64 0, .int .i64 0]) ?_ 3 _ rfl; (with_reducible repeat (first | refine blk_drewN ?_ _ | refine blk_drew ?_ | refine blk_alloc ?_ _)); refine blk_put (cs := #[.int .i64 ((rd_T77 l0_0 x25_1).f0.f0), .int .i64 ((rd_T77 l0_0 x25_1).f0.f1), .int .i64 0, .int .i64 0, .int .i64 0, .int .i64 0, .int .i64 0, .int .i64 0, .int .i64 0, .int .i64 0, .int .i64 0]) ?_ 2 _ rfl; (with_reducible repeat (first | refine blk_drewN ?_ _ | refine blk_drew ?_ | refine blk_alloc ?_ _)); refine blk_put (cs := #[.int .i64 ((rd_T77 l0_0 x25_1).f0.f0), .int .i64 0, .int .i64 0, .int .i64 0, .int .i64 0, .int .i64 0, .int .i64 0, .int .i64 0, .int .i64 0, .int .i64 0, .int .i64 0]) ?_ 1 _ rfl; (with_reducible repeat (first | refine blk_drewN ?_ _ | refine blk_drew ?_ | refine blk_alloc ?_ _)); refine blk_put (cs := #[.int .i64 0, .int .i64 0, .int .i64 0, .int .i64 0, .int .i64 0, .int .i64 0, .int .i64 0, .int .i64 0, .int .i64 0, .int .i64 0, .int .i64 0]) ?_ 0 _ rfl; (with_reducible repeat (first | refine blk_drewN ?_ _ | refine blk_drew ?_ | refine blk_alloc ?_ _)); exact BK326.out⟩, ⟨by repeat (first | (with_reducible first | exact HB.out | apply below_alloc | apply pw_below_drewN | apply below_drew1 | refine below_set ?_ GE321.out | refine below_set ?_ GE326.out) | exact HB.out)⟩⟩
                        · rw [if_neg c25] at H
                          have c25b0 : decide (1099511627776 < ((rd_T77 l0_0 x25_1).f1)) = false := decide_eq_false c25
                          clear c25
                          by_cases c28 : x25_1 > 0
                          · rw [if_pos c28] at H
                            have c28b0 : decide (0 < x25_1) = true := decide_eq_true c28
                            clear c28
                            by_cases c29 : x25_1 < (x4_1.length : Int)
                            · rw [if_pos c29] at H
                              have c29b0 : decide (x25_1 < (x4_1.length : Int)) = true := decide_eq_true c29
                              clear c29
                              have H' := Aside0.mk H
                              clear H
                              have hnb30 := NB326_321.out
                              have hnc30 := NB321_326.out
                              have hcz31_0 : w19.cell? ⟨gb326, 0, none⟩ = some (.int .i64 0) := (blk_cell BK326.out 0).trans rfl
                              have hcz31_1 : w19.cell? ⟨gb326, 1, none⟩ = some (.int .i64 0) := (blk_cell BK326.out 1).trans rfl
                              have hcz31_2 : w19.cell? ⟨gb326, 2, none⟩ = some (.int .i64 0) := (blk_cell BK326.out 2).trans rfl
                              have hcz31_3 : w19.cell? ⟨gb326, 3, none⟩ = some (.int .i64 0) := (blk_cell BK326.out 3).trans rfl
                              have hcz31_4 : w19.cell? ⟨gb326, 4, none⟩ = some (.int .i64 0) := (blk_cell BK326.out 4).trans rfl
                              have hcz31_5 : w19.cell? ⟨gb326, 5, none⟩ = some (.int .i64 0) := (blk_cell BK326.out 5).trans rfl
                              have hcz31_6 : w19.cell? ⟨gb326, 6, none⟩ = some (.int .i64 0) := (blk_cell BK326.out 6).trans rfl
                              have hcz31_7 : w19.cell? ⟨gb326, 7, none⟩ = some (.int .i64 0) := (blk_cell BK326.out 7).trans rfl
                              have hcz31_8 : w19.cell? ⟨gb326, 8, none⟩ = some (.int .i64 0) := (blk_cell BK326.out 8).trans rfl
                              have hcz31_9 : w19.cell? ⟨gb326, 9, none⟩ = some (.int .i64 0) := (blk_cell BK326.out 9).trans rfl
                              have hcz31_10 : w19.cell? ⟨gb326, 10, none⟩ = some (.int .i64 0) := (blk_cell BK326.out 10).trans rfl
                              have hfz31_0 := blk_frozen BK326.out 0
                              have hfz31_1 := blk_frozen BK326.out 1
                              have hfz31_2 := blk_frozen BK326.out 2
                              have hfz31_3 := blk_frozen BK326.out 3
                              have hfz31_4 := blk_frozen BK326.out 4
                              have hfz31_5 := blk_frozen BK326.out 5
                              have hfz31_6 := blk_frozen BK326.out 6
                              have hfz31_7 := blk_frozen BK326.out 7
                              have hfz31_8 := blk_frozen BK326.out 8
                              have hfz31_9 := blk_frozen BK326.out 9
                              have hfz31_10 := blk_frozen BK326.out 10
                              obtain ⟨Ao32, co32, eo32⟩ := Kd.R_slice HO_4.out
                              subst eo32
                              have p327 : 0 ≤ (x25_1 : Int) := of_decide_eq_true (by first | (with_reducible assumption) | assumption)
                              have q327 : x25_1 < (x4_1.length : Int) := of_decide_eq_true (by first | (with_reducible assumption) | assumption)
                              obtain ⟨ad327, e327, hx327_0⟩ := Kd.at_int (Kd.R_reads' HO_4.out).2.2 x25_1 p327 q327
                              cases e327
                              have hn327_0 : ad327.block ≠ gb326 := Kd.own_blk (Kd.R_ne HO_4.out BK326.out (by decide))
                              have hn327_1 : ad327.block ≠ gb326 := Kd.own_blk (Kd.R_ne HO_4.out BK326.out (by decide))
                              have hn327_2 : ad327.block ≠ gb326 := Kd.own_blk (Kd.R_ne HO_4.out BK326.out (by decide))
                              have hn327_3 : ad327.block ≠ gb326 := Kd.own_blk (Kd.R_ne HO_4.out BK326.out (by decide))
                              have hn327_4 : ad327.block ≠ gb326 := Kd.own_blk (Kd.R_ne HO_4.out BK326.out (by decide))
                              have hn327_5 : ad327.block ≠ gb326 := Kd.own_blk (Kd.R_ne HO_4.out BK326.out (by decide))
                              have hn327_6 : ad327.block ≠ gb326 := Kd.own_blk (Kd.R_ne HO_4.out BK326.out (by decide))
                              have hn327_7 : ad327.block ≠ gb326 := Kd.own_blk (Kd.R_ne HO_4.out BK326.out (by decide))
                              have hn327_8 : ad327.block ≠ gb326 := Kd.own_blk (Kd.R_ne HO_4.out BK326.out (by decide))
                              have hn327_9 : ad327.block ≠ gb326 := Kd.own_blk (Kd.R_ne HO_4.out BK326.out (by decide))
                              have hn327_10 : ad327.block ≠ gb326 := Kd.own_blk (Kd.R_ne HO_4.out BK326.out (by decide))
                              replace hx327_0 := (cell_far (p := ⟨gb326, 0, none⟩) (by first | (rw [add_block]; exact hn327_0) | (show (Addr.add _ _).block ≠ _; rw [add_block]; exact hn327_0) | exact hn327_0) (.int .i64 ((rd_T77 l0_0 x25_1).f0.f0))).trans hx327_0
                              replace hx327_0 := (cell_far (p := ⟨gb326, 1, none⟩) (by first | (rw [add_block]; exact hn327_1) | (show (Addr.add _ _).block ≠ _; rw [add_block]; exact hn327_1) | exact hn327_1) (.int .i64 ((rd_T77 l0_0 x25_1).f0.f1))).trans hx327_0
                              replace hx327_0 := (cell_far (p := ⟨gb326, 2, none⟩) (by first | (rw [add_block]; exact hn327_2) | (show (Addr.add _ _).block ≠ _; rw [add_block]; exact hn327_2) | exact hn327_2) (.int .i64 ((rd_T77 l0_0 x25_1).f0.f2))).trans hx327_0
                              replace hx327_0 := (cell_far (p := ⟨gb326, 3, none⟩) (by first | (rw [add_block]; exact hn327_3) | (show (Addr.add _ _).block ≠ _; rw [add_block]; exact hn327_3) | exact hn327_3) (.int .i64 ((rd_T77 l0_0 x25_1).f0.f3))).trans hx327_0
                              replace hx327_0 := (cell_far (p := ⟨gb326, 4, none⟩) (by first | (rw [add_block]; exact hn327_4) | (show (Addr.add _ _).block ≠ _; rw [add_block]; exact hn327_4) | exact hn327_4) (.int .i64 ((rd_T77 l0_0 x25_1).f0.f4))).trans hx327_0
                              replace hx327_0 := (cell_far (p := ⟨gb326, 5, none⟩) (by first | (rw [add_block]; exact hn327_5) | (show (Addr.add _ _).block ≠ _; rw [add_block]; exact hn327_5) | exact hn327_5) (.int .i64 ((rd_T77 l0_0 x25_1).f0.f5))).trans hx327_0
                              replace hx327_0 := (cell_far (p := ⟨gb326, 6, none⟩) (by first | (rw [add_block]; exact hn327_6) | (show (Addr.add _ _).block ≠ _; rw [add_block]; exact hn327_6) | exact hn327_6) (.int .i64 ((rd_T77 l0_0 x25_1).f0.f6))).trans hx327_0
                              replace hx327_0 := (cell_far (p := ⟨gb326, 7, none⟩) (by first | (rw [add_block]; exact hn327_7) | (show (Addr.add _ _).block ≠ _; rw [add_block]; exact hn327_7) | exact hn327_7) (.int .i64 ((rd_T77 l0_0 x25_1).f0.f7))).trans hx327_0
                              replace hx327_0 := (cell_far (p := ⟨gb326, 8, none⟩) (by first | (rw [add_block]; exact hn327_8) | (show (Addr.add _ _).block ≠ _; rw [add_block]; exact hn327_8) | exact hn327_8) (.int .i64 ((rd_T77 l0_0 x25_1).f0.f8))).trans hx327_0
                              replace hx327_0 := (cell_far (p := ⟨gb326, 9, none⟩) (by first | (rw [add_block]; exact hn327_9) | (show (Addr.add _ _).block ≠ _; rw [add_block]; exact hn327_9) | exact hn327_9) (.int .i64 ((rd_T77 l0_0 x25_1).f0.f9))).trans hx327_0
                              replace hx327_0 := (cell_far (p := ⟨gb326, 10, none⟩) (by first | (rw [add_block]; exact hn327_10) | (show (Addr.add _ _).block ≠ _; rw [add_block]; exact hn327_10) | exact hn327_10) (.int .i64 ((rd_T77 l0_0 x25_1).f1))).trans hx327_0
                              clear hn327_0
                              clear hn327_1
                              clear hn327_2
                              clear hn327_3
                              clear hn327_4
                              clear hn327_5
                              clear hn327_6
                              clear hn327_7
                              clear hn327_8
                              clear hn327_9
                              clear hn327_10
                              replace p327 := eq_true p327
                              replace q327 := eq_true q327
                              go_wp2
                              go_meet
                              case rel => exact ⟨_, (((rd x4_1 x25_1) == 0)), (by first | rfl | (simp; done) | (simp [*]; done)), H', ⟨by have := HK1.out; first | omega | exact Nat.le_refl _⟩, ⟨by (with_reducible repeat (first | apply Kd.R_alloc | apply Kd.R_drewN | apply Kd.R_drew)); exact Kd.R_mono (Kd.R_far (p := ⟨gb326, 10, none⟩) (Kd.R_far (p := ⟨gb326, 9, none⟩) (Kd.R_far (p := ⟨gb326, 8, none⟩) (Kd.R_far (p := ⟨gb326, 7, none⟩) (Kd.R_far (p := ⟨gb326, 6, none⟩) (Kd.R_far (p := ⟨gb326, 5, none⟩) (Kd.R_far (p := ⟨gb326, 4, none⟩) (Kd.R_far (p := ⟨gb326, 3, none⟩) (Kd.R_far (p := ⟨gb326, 2, none⟩) (Kd.R_far (p := ⟨gb326, 1, none⟩) (Kd.R_far (p := ⟨gb326, 0, none⟩) (Kd.R_types HO_4.out BK326.out (by decide)) (fun _ hk => hk.2) (.int .i64 ((rd_T77 l0_0 x25_1).f0.f0))) (fun _ hk => hk.2) (.int .i64 ((rd_T77 l0_0 x25_1).f0.f1))) (fun _ hk => hk.2) (.int .i64 ((rd_T77 l0_0 x25_1).f0.f2))) (fun _ hk => hk.2) (.int .i64 ((rd_T77 l0_0 x25_1).f0.f3))) (fun _ hk => hk.2) (.int .i64 ((rd_T77 l0_0 x25_1).f0.f4))) (fun _ hk => hk.2) (.int .i64 ((rd_T77 l0_0 x25_1).f0.f5))) (fun _ hk => hk.2) (.int .i64 ((rd_T77 l0_0 x25_1).f0.f6))) (fun _ hk => hk.2) (.int .i64 ((rd_T77 l0_0 x25_1).f0.f7))) (fun _ hk => hk.2) (.int .i64 ((rd_T77 l0_0 x25_1).f0.f8))) (fun _ hk => hk.2) (.int .i64 ((rd_T77 l0_0 x25_1).f0.f9))) (fun _ hk => hk.2) (.int .i64 ((rd_T77 l0_0 x25_1).f1))) (fun _ hk => trivial)⟩, ⟨by (with_reducible repeat (first | refine blk_drewN ?_ _ | refine blk_drew ?_ | refine blk_alloc ?_ _)); refine blk_far ?_ NB321_326.out _; (with_reducible repeat (first | refine blk_drewN ?_ _ | refine blk_drew ?_ | refine blk_alloc ?_ _)); refine blk_far ?_ NB321_326.out _; (with_reducible repeat (first | refine blk_drewN ?_ _ | refine blk_drew ?_ | refine blk_alloc ?_ _)); refine blk_far ?_ NB321_326.out _; (with_reducible repeat (first | refine blk_drewN ?_ _ | refine blk_drew ?_ | refine blk_alloc ?_ _)); refine blk_far ?_ NB321_326.out _; (with_reducible repeat (first | refine blk_drewN ?_ _ | refine blk_drew ?_ | refine blk_alloc ?_ _)); refine blk_far ?_ NB321_326.out _; (with_reducible repeat (first | refine blk_drewN ?_ _ | refine blk_drew ?_ | refine blk_alloc ?_ _)); refine blk_far ?_ NB321_326.out _; (with_reducible repeat (first | refine blk_drewN ?_ _ | refine blk_drew ?_ | refine blk_alloc ?_ _)); refine blk_far ?_ NB321_326.out _; (with_reducible repeat (first | refine blk_drewN ?_ _ | refine blk_drew ?_ | refine blk_alloc ?_ _)); refine blk_far ?_ NB321_326.out _; (with_reducible repeat (first | refine blk_drewN ?_ _ | refine blk_drew ?_ | refine blk_alloc ?_ _)); refine blk_far ?_ NB321_326.out _; (with_reducible repeat (first | refine blk_drewN ?_ _ | refine blk_drew ?_ | refine blk_alloc ?_ _)); refine blk_far ?_ NB321_326.out _; (with_reducible repeat (first | refine blk_drewN ?_ _ | refine blk_drew ?_ | refine blk_alloc ?_ _)); refine blk_far ?_ NB321_326.out _; (with_reducible repeat (first | refine blk_drewN ?_ _ | refine blk_drew ?_ | refine blk_alloc ?_ _)); exact BK321.out⟩, ⟨by (with_reducible repeat (first | refine blk_drewN ?_ _ | refine blk_drew ?_ | refine blk_alloc ?_ _)); refine blk_put (cs := #[.int .i64 ((rd_T77 l0_0 x25_1).f0.f0), .int .i64 ((rd_T77 l0_0 x25_1).f0.f1), .int .i64 ((rd_T77 l0_0 x25_1).f0.f2), .int .i64 ((rd_T77 l0_0 x25_1).f0.f3), .int .i64 ((rd_T77 l0_0 x25_1).f0.f4), .int .i64 ((rd_T77 l0_0 x25_1).f0.f5), .int .i64 ((rd_T77 l0_0 x25_1).f0.f6), .int .i64 ((rd_T77 l0_0 x25_1).f0.f7), .int .i64 ((rd_T77 l0_0 x25_1).f0.f8), .int .i64 ((rd_T77 l0_0 x25_1).f0.f9), .int .i64 0]) ?_ 10 _ rfl; (with_reducible repeat (first | refine blk_drewN ?_ _ | refine blk_drew ?_ | refine blk_alloc ?_ _)); refine blk_put (cs := #[.int .i64 ((rd_T77 l0_0 x25_1).f0.f0), .int .i64 ((rd_T77 l0_0 x25_1).f0.f1), .int .i64 ((rd_T77 l0_0 x25_1).f0.f2), .int .i64 ((rd_T77 l0_0 x25_1).f0.f3), .int .i64 ((rd_T77 l0_0 x25_1).f0.f4), .int .i64 ((rd_T77 l0_0 x25_1).f0.f5), .int .i64 ((rd_T77 l0_0 x25_1).f0.f6), .int .i64 ((rd_T77 l0_0 x25_1).f0.f7), .int .i64 ((rd_T77 l0_0 x25_1).f0.f8), .int .i64 0, .int .i64 0]) ?_ 9 _ rfl; (with_reducible repeat (first | refine blk_drewN ?_ _ | refine blk_drew ?_ | refine blk_alloc ?_ _)); refine blk_put (cs := #[.int .i64 ((rd_T77 l0_0 x25_1).f0.f0), .int .i64 ((rd_T77 l0_0 x25_1).f0.f1), .int .i64 ((rd_T77 l0_0 x25_1).f0.f2), .int .i64 ((rd_T77 l0_0 x25_1).f0.f3), .int .i64 ((rd_T77 l0_0 x25_1).f0.f4), .int .i64 ((rd_T77 l0_0 x25_1).f0.f5), .int .i64 ((rd_T77 l0_0 x25_1).f0.f6), .int .i64 ((rd_T77 l0_0 x25_1).f0.f7), .int .i64 0, .int .i64 0, .int .i64 0]) ?_ 8 _ rfl; (with_reducible repeat (first | refine blk_drewN ?_ _ | refine blk_drew ?_ | refine blk_alloc ?_ _)); refine blk_put (cs := #[.int .i64 ((rd_T77 l0_0 x25_1).f0.f0), .int .i64 ((rd_T77 l0_0 x25_1).f0.f1), .int .i64 ((rd_T77 l0_0 x25_1).f0.f2), .int .i64 ((rd_T77 l0_0 x25_1).f0.f3), .int .i64 ((rd_T77 l0_0 x25_1).f0.f4), .int .i64 ((rd_T77 l0_0 x25_1).f0.f5), .int .i64 ((rd_T77 l0_0 x25_1).f0.f6), .int .i64 0, .int .i64 0, .int .i64 0, .int .i64 0]) ?_ 7 _ rfl; (with_reducible repeat (first | refine blk_drewN ?_ _ | refine blk_drew ?_ | refine blk_alloc ?_ _)); refine blk_put (cs := #[.int .i64 ((rd_T77 l0_0 x25_1).f0.f0), .int .i64 ((rd_T77 l0_0 x25_1).f0.f1), .int .i64 ((rd_T77 l0_0 x25_1).f0.f2), .int .i64 ((rd_T77 l0_0 x25_1).f0.f3), .int .i64 ((rd_T77 l0_0 x25_1).f0.f4), .int .i64 ((rd_T77 l0_0 x25_1).f0.f5), .int .i64 0, .int .i64 0, .int .i64 0, .int .i64 0, .int .i64 0]) ?_ 6 _ rfl; (with_reducible repeat (first | refine blk_drewN ?_ _ | refine blk_drew ?_ | refine blk_alloc ?_ _)); refine blk_put (cs := #[.int .i64 ((rd_T77 l0_0 x25_1).f0.f0), .int .i64 ((rd_T77 l0_0 x25_1).f0.f1), .int .i64 ((rd_T77 l0_0 x25_1).f0.f2), .int .i64 ((rd_T77 l0_0 x25_1).f0.f3), .int .i64 ((rd_T77 l0_0 x25_1).f0.f4), .int .i64 0, .int .i64 0, .int .i64 0, .int .i64 0, .int .i64 0, .int .i64 0]) ?_ 5 _ rfl; (with_reducible repeat (first | refine blk_drewN ?_ _ | refine blk_drew ?_ | refine blk_alloc ?_ _)); refine blk_put (cs := #[.int .i64 ((rd_T77 l0_0 x25_1).f0.f0), .int .i64 ((rd_T77 l0_0 x25_1).f0.f1), .int .i64 ((rd_T77 l0_0 x25_1).f0.f2), .int .i64 ((rd_T77 l0_0 x25_1).f0.f3), .int .i64 0, .int .i64 0, .int .i64 0, .int .i64 0, .int .i64 0, .int .i64 0, .int .i64 0]) ?_ 4 _ rfl; (with_reducible repeat (first | refine blk_drewN ?_ _ | refine blk_drew ?_ | refine blk_alloc ?_ _)); refine blk_put (cs := #[.int .i64 ((rd_T77 l0_0 x25_1).f0.f0), .int .i64 ((rd_T77 l0_0 x25_1).f0.f1), .int .i64 ((rd_T77 l0_0 x25_1).f0.f2), .int .i64 0, .int .i64 0, .int .i64 0, .int .i64 0, .int .i64 0, .int .i64 0, .int .i64 0, .int .i64 0]) ?_ 3 _ rfl; (with_reducible repeat (first | refine blk_drewN ?_ _ | refine blk_drew ?_ | refine blk_alloc ?_ _)); refine blk_put (cs := #[.int .i64 ((rd_T77 l0_0 x25_1).f0.f0), .int .i64 ((rd_T77 l0_0 x25_1).f0.f1), .int .i64 0, .int .i64 0, .int .i64 0, .int .i64 0, .int .i64 0, .int .i64 0, .int .i64 0, .int .i64 0, .int .i64 0]) ?_ 2 _ rfl; (with_reducible repeat (first | refine blk_drewN ?_ _ | refine blk_drew ?_ | refine blk_alloc ?_ _)); refine blk_put (cs := #[.int .i64 ((rd_T77 l0_0 x25_1).f0.f0), .int .i64 0, .int .i64 0, .int .i64 0, .int .i64 0, .int .i64 0, .int .i64 0, .int .i64 0, .int .i64 0, .int .i64 0, .int .i64 0]) ?_ 1 _ rfl; (with_reducible repeat (first | refine blk_drewN ?_ _ | refine blk_drew ?_ | refine blk_alloc ?_ _)); refine blk_put (cs := #[.int .i64 0, .int .i64 0, .int .i64 0, .int .i64 0, .int .i64 0, .int .i64 0, .int .i64 0, .int .i64 0, .int .i64 0, .int .i64 0, .int .i64 0]) ?_ 0 _ rfl; (with_reducible repeat (first | refine blk_drewN ?_ _ | refine blk_drew ?_ | refine blk_alloc ?_ _)); exact BK326.out⟩, ⟨by repeat (first | (with_reducible first | exact HB.out | apply below_alloc | apply pw_below_drewN | apply below_drew1 | refine below_set ?_ GE321.out | refine below_set ?_ GE326.out) | exact HB.out)⟩⟩
                            · rw [if_neg c29] at H
                              exact absurd H (by simp)
                          · rw [if_neg c28] at H
                            have c28b0 : decide (0 < x25_1) = false := decide_eq_false c28
                            clear c28
                            have H' := Aside0.mk H
                            clear H
                            have hnb33 := NB326_321.out
                            have hnc33 := NB321_326.out
                            have hcz34_0 : w19.cell? ⟨gb326, 0, none⟩ = some (.int .i64 0) := (blk_cell BK326.out 0).trans rfl
                            have hcz34_1 : w19.cell? ⟨gb326, 1, none⟩ = some (.int .i64 0) := (blk_cell BK326.out 1).trans rfl
                            have hcz34_2 : w19.cell? ⟨gb326, 2, none⟩ = some (.int .i64 0) := (blk_cell BK326.out 2).trans rfl
                            have hcz34_3 : w19.cell? ⟨gb326, 3, none⟩ = some (.int .i64 0) := (blk_cell BK326.out 3).trans rfl
                            have hcz34_4 : w19.cell? ⟨gb326, 4, none⟩ = some (.int .i64 0) := (blk_cell BK326.out 4).trans rfl
                            have hcz34_5 : w19.cell? ⟨gb326, 5, none⟩ = some (.int .i64 0) := (blk_cell BK326.out 5).trans rfl
                            have hcz34_6 : w19.cell? ⟨gb326, 6, none⟩ = some (.int .i64 0) := (blk_cell BK326.out 6).trans rfl
                            have hcz34_7 : w19.cell? ⟨gb326, 7, none⟩ = some (.int .i64 0) := (blk_cell BK326.out 7).trans rfl
                            have hcz34_8 : w19.cell? ⟨gb326, 8, none⟩ = some (.int .i64 0) := (blk_cell BK326.out 8).trans rfl
                            have hcz34_9 : w19.cell? ⟨gb326, 9, none⟩ = some (.int .i64 0) := (blk_cell BK326.out 9).trans rfl
                            have hcz34_10 : w19.cell? ⟨gb326, 10, none⟩ = some (.int .i64 0) := (blk_cell BK326.out 10).trans rfl
                            have hfz34_0 := blk_frozen BK326.out 0
                            have hfz34_1 := blk_frozen BK326.out 1
                            have hfz34_2 := blk_frozen BK326.out 2
                            have hfz34_3 := blk_frozen BK326.out 3
                            have hfz34_4 := blk_frozen BK326.out 4
                            have hfz34_5 := blk_frozen BK326.out 5
                            have hfz34_6 := blk_frozen BK326.out 6
                            have hfz34_7 := blk_frozen BK326.out 7
                            have hfz34_8 := blk_frozen BK326.out 8
                            have hfz34_9 := blk_frozen BK326.out 9
                            have hfz34_10 := blk_frozen BK326.out 10
                            go_wp2
                            go_meet
                            case rel => exact ⟨_, (false), (by first | rfl | (simp; done) | (simp [*]; done)), H', ⟨by have := HK1.out; first | omega | exact Nat.le_refl _⟩, ⟨by (with_reducible repeat (first | apply Kd.R_alloc | apply Kd.R_drewN | apply Kd.R_drew)); exact Kd.R_mono (Kd.R_far (p := ⟨gb326, 10, none⟩) (Kd.R_far (p := ⟨gb326, 9, none⟩) (Kd.R_far (p := ⟨gb326, 8, none⟩) (Kd.R_far (p := ⟨gb326, 7, none⟩) (Kd.R_far (p := ⟨gb326, 6, none⟩) (Kd.R_far (p := ⟨gb326, 5, none⟩) (Kd.R_far (p := ⟨gb326, 4, none⟩) (Kd.R_far (p := ⟨gb326, 3, none⟩) (Kd.R_far (p := ⟨gb326, 2, none⟩) (Kd.R_far (p := ⟨gb326, 1, none⟩) (Kd.R_far (p := ⟨gb326, 0, none⟩) (Kd.R_types HO_4.out BK326.out (by decide)) (fun _ hk => hk.2) (.int .i64 ((rd_T77 l0_0 x25_1).f0.f0))) (fun _ hk => hk.2) (.int .i64 ((rd_T77 l0_0 x25_1).f0.f1))) (fun _ hk => hk.2) (.int .i64 ((rd_T77 l0_0 x25_1).f0.f2))) (fun _ hk => hk.2) (.int .i64 ((rd_T77 l0_0 x25_1).f0.f3))) (fun _ hk => hk.2) (.int .i64 ((rd_T77 l0_0 x25_1).f0.f4))) (fun _ hk => hk.2) (.int .i64 ((rd_T77 l0_0 x25_1).f0.f5))) (fun _ hk => hk.2) (.int .i64 ((rd_T77 l0_0 x25_1).f0.f6))) (fun _ hk => hk.2) (.int .i64 ((rd_T77 l0_0 x25_1).f0.f7))) (fun _ hk => hk.2) (.int .i64 ((rd_T77 l0_0 x25_1).f0.f8))) (fun _ hk => hk.2) (.int .i64 ((rd_T77 l0_0 x25_1).f0.f9))) (fun _ hk => hk.2) (.int .i64 ((rd_T77 l0_0 x25_1).f1))) (fun _ hk => trivial)⟩, ⟨by (with_reducible repeat (first | refine blk_drewN ?_ _ | refine blk_drew ?_ | refine blk_alloc ?_ _)); refine blk_far ?_ NB321_326.out _; (with_reducible repeat (first | refine blk_drewN ?_ _ | refine blk_drew ?_ | refine blk_alloc ?_ _)); refine blk_far ?_ NB321_326.out _; (with_reducible repeat (first | refine blk_drewN ?_ _ | refine blk_drew ?_ | refine blk_alloc ?_ _)); refine blk_far ?_ NB321_326.out _; (with_reducible repeat (first | refine blk_drewN ?_ _ | refine blk_drew ?_ | refine blk_alloc ?_ _)); refine blk_far ?_ NB321_326.out _; (with_reducible repeat (first | refine blk_drewN ?_ _ | refine blk_drew ?_ | refine blk_alloc ?_ _)); refine blk_far ?_ NB321_326.out _; (with_reducible repeat (first | refine blk_drewN ?_ _ | refine blk_drew ?_ | refine blk_alloc ?_ _)); refine blk_far ?_ NB321_326.out _; (with_reducible repeat (first | refine blk_drewN ?_ _ | refine blk_drew ?_ | refine blk_alloc ?_ _)); refine blk_far ?_ NB321_326.out _; (with_reducible repeat (first | refine blk_drewN ?_ _ | refine blk_drew ?_ | refine blk_alloc ?_ _)); refine blk_far ?_ NB321_326.out _; (with_reducible repeat (first | refine blk_drewN ?_ _ | refine blk_drew ?_ | refine blk_alloc ?_ _)); refine blk_far ?_ NB321_326.out _; (with_reducible repeat (first | refine blk_drewN ?_ _ | refine blk_drew ?_ | refine blk_alloc ?_ _)); refine blk_far ?_ NB321_326.out _; (with_reducible repeat (first | refine blk_drewN ?_ _ | refine blk_drew ?_ | refine blk_alloc ?_ _)); refine blk_far ?_ NB321_326.out _; (with_reducible repeat (first | refine blk_drewN ?_ _ | refine blk_drew ?_ | refine blk_alloc ?_ _)); exact BK321.out⟩, ⟨by (with_reducible repeat (first | refine blk_drewN ?_ _ | refine blk_drew ?_ | refine blk_alloc ?_ _)); refine blk_put (cs := #[.int .i64 ((rd_T77 l0_0 x25_1).f0.f0), .int .i64 ((rd_T77 l0_0 x25_1).f0.f1), .int .i64 ((rd_T77 l0_0 x25_1).f0.f2), .int .i64 ((rd_T77 l0_0 x25_1).f0.f3), .int .i64 ((rd_T77 l0_0 x25_1).f0.f4), .int .i64 ((rd_T77 l0_0 x25_1).f0.f5), .int .i64 ((rd_T77 l0_0 x25_1).f0.f6), .int .i64 ((rd_T77 l0_0 x25_1).f0.f7), .int .i64 ((rd_T77 l0_0 x25_1).f0.f8), .int .i64 ((rd_T77 l0_0 x25_1).f0.f9), .int .i64 0]) ?_ 10 _ rfl; (with_reducible repeat (first | refine blk_drewN ?_ _ | refine blk_drew ?_ | refine blk_alloc ?_ _)); refine blk_put (cs := #[.int .i64 ((rd_T77 l0_0 x25_1).f0.f0), .int .i64 ((rd_T77 l0_0 x25_1).f0.f1), .int .i64 ((rd_T77 l0_0 x25_1).f0.f2), .int .i64 ((rd_T77 l0_0 x25_1).f0.f3), .int .i64 ((rd_T77 l0_0 x25_1).f0.f4), .int .i64 ((rd_T77 l0_0 x25_1).f0.f5), .int .i64 ((rd_T77 l0_0 x25_1).f0.f6), .int .i64 ((rd_T77 l0_0 x25_1).f0.f7), .int .i64 ((rd_T77 l0_0 x25_1).f0.f8), .int .i64 0, .int .i64 0]) ?_ 9 _ rfl; (with_reducible repeat (first | refine blk_drewN ?_ _ | refine blk_drew ?_ | refine blk_alloc ?_ _)); refine blk_put (cs := #[.int .i64 ((rd_T77 l0_0 x25_1).f0.f0), .int .i64 ((rd_T77 l0_0 x25_1).f0.f1), .int .i64 ((rd_T77 l0_0 x25_1).f0.f2), .int .i64 ((rd_T77 l0_0 x25_1).f0.f3), .int .i64 ((rd_T77 l0_0 x25_1).f0.f4), .int .i64 ((rd_T77 l0_0 x25_1).f0.f5), .int .i64 ((rd_T77 l0_0 x25_1).f0.f6), .int .i64 ((rd_T77 l0_0 x25_1).f0.f7), .int .i64 0, .int .i64 0, .int .i64 0]) ?_ 8 _ rfl; (with_reducible repeat (first | refine blk_drewN ?_ _ | refine blk_drew ?_ | refine blk_alloc ?_ _)); refine blk_put (cs := #[.int .i64 ((rd_T77 l0_0 x25_1).f0.f0), .int .i64 ((rd_T77 l0_0 x25_1).f0.f1), .int .i64 ((rd_T77 l0_0 x25_1).f0.f2), .int .i64 ((rd_T77 l0_0 x25_1).f0.f3), .int .i64 ((rd_T77 l0_0 x25_1).f0.f4), .int .i64 ((rd_T77 l0_0 x25_1).f0.f5), .int .i64 ((rd_T77 l0_0 x25_1).f0.f6), .int .i64 0, .int .i64 0, .int .i64 0, .int .i64 0]) ?_ 7 _ rfl; (with_reducible repeat (first | refine blk_drewN ?_ _ | refine blk_drew ?_ | refine blk_alloc ?_ _)); refine blk_put (cs := #[.int .i64 ((rd_T77 l0_0 x25_1).f0.f0), .int .i64 ((rd_T77 l0_0 x25_1).f0.f1), .int .i64 ((rd_T77 l0_0 x25_1).f0.f2), .int .i64 ((rd_T77 l0_0 x25_1).f0.f3), .int .i64 ((rd_T77 l0_0 x25_1).f0.f4), .int .i64 ((rd_T77 l0_0 x25_1).f0.f5), .int .i64 0, .int .i64 0, .int .i64 0, .int .i64 0, .int .i64 0]) ?_ 6 _ rfl; (with_reducible repeat (first | refine blk_drewN ?_ _ | refine blk_drew ?_ | refine blk_alloc ?_ _)); refine blk_put (cs := #[.int .i64 ((rd_T77 l0_0 x25_1).f0.f0), .int .i64 ((rd_T77 l0_0 x25_1).f0.f1), .int .i64 ((rd_T77 l0_0 x25_1).f0.f2), .int .i64 ((rd_T77 l0_0 x25_1).f0.f3), .int .i64 ((rd_T77 l0_0 x25_1).f0.f4), .int .i64 0, .int .i64 0, .int .i64 0, .int .i64 0, .int .i64 0, .int .i64 0]) ?_ 5 _ rfl; (with_reducible repeat (first | refine blk_drewN ?_ _ | refine blk_drew ?_ | refine blk_alloc ?_ _)); refine blk_put (cs := #[.int .i64 ((rd_T77 l0_0 x25_1).f0.f0), .int .i64 ((rd_T77 l0_0 x25_1).f0.f1), .int .i64 ((rd_T77 l0_0 x25_1).f0.f2), .int .i64 ((rd_T77 l0_0 x25_1).f0.f3), .int .i64 0, .int .i64 0, .int .i64 0, .int .i64 0, .int .i64 0, .int .i64 0, .int .i64 0]) ?_ 4 _ rfl; (with_reducible repeat (first | refine blk_drewN ?_ _ | refine blk_drew ?_ | refine blk_alloc ?_ _)); refine blk_put (cs := #[.int .i64 ((rd_T77 l0_0 x25_1).f0.f0), .int .i64 ((rd_T77 l0_0 x25_1).f0.f1), .int .i64 ((rd_T77 l0_0 x25_1).f0.f2), .int .i64 0, .int .i64 0, .int .i64 0, .int .i64 0, .int .i64 0, .int .i64 0, .int .i64 0, .int .i64 0]) ?_ 3 _ rfl; (with_reducible repeat (first | refine blk_drewN ?_ _ | refine blk_drew ?_ | refine blk_alloc ?_ _)); refine blk_put (cs := #[.int .i64 ((rd_T77 l0_0 x25_1).f0.f0), .int .i64 ((rd_T77 l0_0 x25_1).f0.f1), .int .i64 0, .int .i64 0, .int .i64 0, .int .i64 0, .int .i64 0, .int .i64 0, .int .i64 0, .int .i64 0, .int .i64 0]) ?_ 2 _ rfl; (with_reducible repeat (first | refine blk_drewN ?_ _ | refine blk_drew ?_ | refine blk_alloc ?_ _)); refine blk_put (cs := #[.int .i64 ((rd_T77 l0_0 x25_1).f0.f0), .int .i64 0, .int .i64 0, .int .i64 0, .int .i64 0, .int .i64 0, .int .i64 0, .int .i64 0, .int .i64 0, .int .i64 0, .int .i64 0]) ?_ 1 _ rfl; (with_reducible repeat (first | refine blk_drewN ?_ _ | refine blk_drew ?_ | refine blk_alloc ?_ _)); refine blk_put (cs := #[.int .i64 0, .int .i64 0, .int .i64 0, .int .i64 0, .int .i64 0, .int .i64 0, .int .i64 0, .int .i64 0, .int .i64 0, .int .i64 0, .int .i64 0]) ?_ 0 _ rfl; (with_reducible repeat (first | refine blk_drewN ?_ _ | refine blk_drew ?_ | refine blk_alloc ?_ _)); exact BK326.out⟩, ⟨by repeat (first | (with_reducible first | exact HB.out | apply below_alloc | apply pw_below_drewN | apply below_drew1 | refine below_set ?_ GE321.out | refine below_set ?_ GE326.out) | exact HB.out)⟩⟩
                    case rest =>
                      clear HC18
                      try clear c1
                      try clear c2
                      try clear c2b0
                      try clear c2b1
                      try clear p2
                      try clear c3
                      try clear p3
                      try clear q3
                      try clear hx3
                      try clear c4
                      try clear c5
                      try clear c5b0
                      try clear c5b1
                      try clear c5b2
                      try clear c8
                      try clear c8b0
                      try clear c8b1
                      try clear c9
                      try clear c9b0
                      try clear c9b1
                      try clear c15
                      try clear c15b0
                      try clear c16
                      try clear c16b0
                      try clear c17
                      try clear c17b0
                      try clear c20
                      try clear c22
                      try clear c22b0
                      try clear c23
                      try clear c25
                      try clear c25b0
                      try clear c26
                      try clear c28
                      try clear c28b0
                      try clear c29
                      try clear c29b0
                      try clear c30
                      try clear p32
                      try clear q32
                      try clear hx32
                      try clear c33
                      try clear hcz11_0
                      try clear hcz14_0
                      try clear hcz21_0
                      try clear hcz21_1
                      try clear hcz21_10
                      try clear hcz21_2
                      try clear hcz21_3
                      try clear hcz21_4
                      try clear hcz21_5
                      try clear hcz21_6
                      try clear hcz21_7
                      try clear hcz21_8
                      try clear hcz21_9
                      try clear hcz24_0
                      try clear hcz24_1
                      try clear hcz24_10
                      try clear hcz24_2
                      try clear hcz24_3
                      try clear hcz24_4
                      try clear hcz24_5
                      try clear hcz24_6
                      try clear hcz24_7
                      try clear hcz24_8
                      try clear hcz24_9
                      try clear hcz27_0
                      try clear hcz27_1
                      try clear hcz27_10
                      try clear hcz27_2
                      try clear hcz27_3
                      try clear hcz27_4
                      try clear hcz27_5
                      try clear hcz27_6
                      try clear hcz27_7
                      try clear hcz27_8
                      try clear hcz27_9
                      try clear hcz31_0
                      try clear hcz31_1
                      try clear hcz31_10
                      try clear hcz31_2
                      try clear hcz31_3
                      try clear hcz31_4
                      try clear hcz31_5
                      try clear hcz31_6
                      try clear hcz31_7
                      try clear hcz31_8
                      try clear hcz31_9
                      try clear hcz34_0
                      try clear hcz34_1
                      try clear hcz34_10
                      try clear hcz34_2
                      try clear hcz34_3
                      try clear hcz34_4
                      try clear hcz34_5
                      try clear hcz34_6
                      try clear hcz34_7
                      try clear hcz34_8
                      try clear hcz34_9
                      try clear hcz4_0
                      try clear hcz7_0
                      try clear hfz11_0
                      try clear hfz14_0
                      try clear hfz21_0
                      try clear hfz21_1
                      try clear hfz21_10
                      try clear hfz21_2
                      try clear hfz21_3
                      try clear hfz21_4
                      try clear hfz21_5
                      try clear hfz21_6
                      try clear hfz21_7
                      try clear hfz21_8
                      try clear hfz21_9
                      try clear hfz24_0
                      try clear hfz24_1
                      try clear hfz24_10
                      try clear hfz24_2
                      try clear hfz24_3
                      try clear hfz24_4
                      try clear hfz24_5
                      try clear hfz24_6
                      try clear hfz24_7
                      try clear hfz24_8
                      try clear hfz24_9
                      try clear hfz27_0
                      try clear hfz27_1
                      try clear hfz27_10
                      try clear hfz27_2
                      try clear hfz27_3
                      try clear hfz27_4
                      try clear hfz27_5
                      try clear hfz27_6
                      try clear hfz27_7
                      try clear hfz27_8
                      try clear hfz27_9
                      try clear hfz31_0
                      try clear hfz31_1
                      try clear hfz31_10
                      try clear hfz31_2
                      try clear hfz31_3
                      try clear hfz31_4
                      try clear hfz31_5
                      try clear hfz31_6
                      try clear hfz31_7
                      try clear hfz31_8
                      try clear hfz31_9
                      try clear hfz34_0
                      try clear hfz34_1
                      try clear hfz34_10
                      try clear hfz34_2
                      try clear hfz34_3
                      try clear hfz34_4
                      try clear hfz34_5
                      try clear hfz34_6
                      try clear hfz34_7
                      try clear hfz34_8
                      try clear hfz34_9
                      try clear hfz4_0
                      try clear hfz7_0
                      try clear hx325_0
                      try clear hx325_1
                      try clear hx325_10
                      try clear hx325_2
                      try clear hx325_3
                      try clear hx325_4
                      try clear hx325_5
                      try clear hx325_6
                      try clear hx325_7
                      try clear hx325_8
                      try clear hx325_9
                      try clear hx327_0
                      try clear p2
                      try clear p325
                      try clear p327
                      try clear q325
                      try clear q327
                      obtain ⟨kq, x48_17, rfl, HA, HJ17, HO_4, BK321, BK326, HB⟩ := hcut
                      cases kq with
                      | zero => exact absurd HA.out (by simp [trie_Check.j1])
                      | succ kj17 =>
                        have H := HA.out
                        clear HA
                        simp only [trie_Check.j1] at H
                        by_cases c35 : x48_17 = true
                        · subst c35
                          have H1 : (some 1) = some r := by rw [if_pos rfl] at H; exact H
                          clear H
                          have H := H1
                          clear H1
                          obtain rfl := Option.some.inj H
                          go_wp2
                          go_ret
                          exact ⟨by first | rfl | (simp [errW_none, errW_some] <;> rfl) | (simp [*, errW_none, errW_some] <;> rfl), by repeat (first | (with_reducible first | exact HB.out | apply below_alloc | apply pw_below_drewN | apply below_drew1 | refine below_set ?_ GE321.out | refine below_set ?_ GE326.out) | exact HB.out)⟩
                        · replace c35 := Bool.eq_false_iff.mpr c35
                          subst c35
                          have H1 : (trie_Check.l1 kj17 x4_1 x25_1 l0_0 (l0_0.length : Int) x25_1 0 ((rd_T77 l0_0 x25_1).f0.f0) ((rd_T77 l0_0 x25_1).f0.f1) ((rd_T77 l0_0 x25_1).f0.f2) ((rd_T77 l0_0 x25_1).f0.f3) ((rd_T77 l0_0 x25_1).f0.f4) ((rd_T77 l0_0 x25_1).f0.f5) ((rd_T77 l0_0 x25_1).f0.f6) ((rd_T77 l0_0 x25_1).f0.f7) ((rd_T77 l0_0 x25_1).f0.f8) ((rd_T77 l0_0 x25_1).f0.f9) l0_0) = some r := by rw [if_neg (show ¬ (false = true) by decide)] at H; exact H
                          clear H
                          have H := H1
                          clear H1
                          have H' := Aside0.mk H
                          clear H
                          have hnb36 := NB326_321.out
                          have hnc36 := NB321_326.out
                          have hcz37_0 : wc.cell? ⟨gb326, 0, none⟩ = some (.int .i64 ((rd_T77 l0_0 x25_1).f0.f0)) := (blk_cell BK326.out 0).trans rfl
                          have hcz37_1 : wc.cell? ⟨gb326, 1, none⟩ = some (.int .i64 ((rd_T77 l0_0 x25_1).f0.f1)) := (blk_cell BK326.out 1).trans rfl
                          have hcz37_2 : wc.cell? ⟨gb326, 2, none⟩ = some (.int .i64 ((rd_T77 l0_0 x25_1).f0.f2)) := (blk_cell BK326.out 2).trans rfl
                          have hcz37_3 : wc.cell? ⟨gb326, 3, none⟩ = some (.int .i64 ((rd_T77 l0_0 x25_1).f0.f3)) := (blk_cell BK326.out 3).trans rfl
                          have hcz37_4 : wc.cell? ⟨gb326, 4, none⟩ = some (.int .i64 ((rd_T77 l0_0 x25_1).f0.f4)) := (blk_cell BK326.out 4).trans rfl
                          have hcz37_5 : wc.cell? ⟨gb326, 5, none⟩ = some (.int .i64 ((rd_T77 l0_0 x25_1).f0.f5)) := (blk_cell BK326.out 5).trans rfl
                          have hcz37_6 : wc.cell? ⟨gb326, 6, none⟩ = some (.int .i64 ((rd_T77 l0_0 x25_1).f0.f6)) := (blk_cell BK326.out 6).trans rfl
                          have hcz37_7 : wc.cell? ⟨gb326, 7, none⟩ = some (.int .i64 ((rd_T77 l0_0 x25_1).f0.f7)) := (blk_cell BK326.out 7).trans rfl
                          have hcz37_8 : wc.cell? ⟨gb326, 8, none⟩ = some (.int .i64 ((rd_T77 l0_0 x25_1).f0.f8)) := (blk_cell BK326.out 8).trans rfl
                          have hcz37_9 : wc.cell? ⟨gb326, 9, none⟩ = some (.int .i64 ((rd_T77 l0_0 x25_1).f0.f9)) := (blk_cell BK326.out 9).trans rfl
                          have hcz37_10 : wc.cell? ⟨gb326, 10, none⟩ = some (.int .i64 ((rd_T77 l0_0 x25_1).f1)) := (blk_cell BK326.out 10).trans rfl
                          have hfz37_0 := blk_frozen BK326.out 0
                          have hfz37_1 := blk_frozen BK326.out 1
                          have hfz37_2 := blk_frozen BK326.out 2
                          have hfz37_3 := blk_frozen BK326.out 3
                          have hfz37_4 := blk_frozen BK326.out 4
                          have hfz37_5 := blk_frozen BK326.out 5
                          have hfz37_6 := blk_frozen BK326.out 6
                          have hfz37_7 := blk_frozen BK326.out 7
                          have hfz37_8 := blk_frozen BK326.out 8
                          have hfz37_9 := blk_frozen BK326.out 9
                          have hfz37_10 := blk_frozen BK326.out 10
                          go_wp2
                          go_loopg [51] kj17 (fun kq v51 w' => ∃ (x4_3 : List Int) (x51_3 : Int), v51 = .int .i64 x51_3 ∧ Aside0 (trie_Check.l1 kq x4_3 x25_1 l0_0 (l0_0.length : Int) x25_1 x51_3 ((rd_T77 l0_0 x25_1).f0.f0) ((rd_T77 l0_0 x25_1).f0.f1) ((rd_T77 l0_0 x25_1).f0.f2) ((rd_T77 l0_0 x25_1).f0.f3) ((rd_T77 l0_0 x25_1).f0.f4) ((rd_T77 l0_0 x25_1).f0.f5) ((rd_T77 l0_0 x25_1).f0.f6) ((rd_T77 l0_0 x25_1).f0.f7) ((rd_T77 l0_0 x25_1).f0.f8) ((rd_T77 l0_0 x25_1).f0.f9) l0_0 = some r) ∧ Aside0 (kq ≤ kj17) ∧ Aside0 (Kd.R (Kd.int .i64) 3 w' w.heap.size (fun _ => True) v323 x4_3) ∧ Aside0 (w'.heap[gb321]? = some (.cells #[(.slice (some ad325) l0_0.length c0_0)] 32 (0, 0))) ∧ Aside0 (w'.heap[gb326]? = some (.cells #[.int .i64 ((rd_T77 l0_0 x25_1).f0.f0), .int .i64 ((rd_T77 l0_0 x25_1).f0.f1), .int .i64 ((rd_T77 l0_0 x25_1).f0.f2), .int .i64 ((rd_T77 l0_0 x25_1).f0.f3), .int .i64 ((rd_T77 l0_0 x25_1).f0.f4), .int .i64 ((rd_T77 l0_0 x25_1).f0.f5), .int .i64 ((rd_T77 l0_0 x25_1).f0.f6), .int .i64 ((rd_T77 l0_0 x25_1).f0.f7), .int .i64 ((rd_T77 l0_0 x25_1).f0.f8), .int .i64 ((rd_T77 l0_0 x25_1).f0.f9), .int .i64 ((rd_T77 l0_0 x25_1).f1)] 77 (0, 0))) ∧ Aside0 (Below w.heap.size w w'))
                          case atStart => exact ⟨(x4_1), (0), (by first | rfl | (simp; done) | (simp [*]; done)), H', ⟨Nat.le_refl _⟩, ⟨by (with_reducible repeat (first | apply Kd.R_alloc | apply Kd.R_drewN | apply Kd.R_drew)); exact HO_4.out⟩, ⟨by (with_reducible repeat (first | refine blk_drewN ?_ _ | refine blk_drew ?_ | refine blk_alloc ?_ _)); exact BK321.out⟩, ⟨by (with_reducible repeat (first | refine blk_drewN ?_ _ | refine blk_drew ?_ | refine blk_alloc ?_ _)); exact BK326.out⟩, ⟨by repeat (first | (with_reducible first | exact HB.out | apply below_alloc | apply pw_below_drewN | apply below_drew1 | refine below_set ?_ GE321.out | refine below_set ?_ GE326.out) | exact HB.out)⟩⟩
                          case round =>
                            clear H'
                            try clear c1
                            try clear c2
                            try clear c2b0
                            try clear c2b1
                            try clear p2
                            try clear c3
                            try clear p3
                            try clear q3
                            try clear hx3
                            try clear c4
                            try clear c5
                            try clear c5b0
                            try clear c5b1
                            try clear c5b2
                            try clear c8
                            try clear c8b0
                            try clear c8b1
                            try clear c9
                            try clear c9b0
                            try clear c9b1
                            try clear c15
                            try clear c15b0
                            try clear c16
                            try clear c16b0
                            try clear c17
                            try clear c17b0
                            try clear c20
                            try clear c22
                            try clear c22b0
                            try clear c23
                            try clear c25
                            try clear c25b0
                            try clear c26
                            try clear c28
                            try clear c28b0
                            try clear c29
                            try clear c29b0
                            try clear c30
                            try clear p32
                            try clear q32
                            try clear hx32
                            try clear c33
                            try clear c35
                            try clear c36
                            try clear hcz11_0
                            try clear hcz14_0
                            try clear hcz21_0
                            try clear hcz21_1
                            try clear hcz21_10
                            try clear hcz21_2
                            try clear hcz21_3
                            try clear hcz21_4
                            try clear hcz21_5
                            try clear hcz21_6
                            try clear hcz21_7
                            try clear hcz21_8
                            try clear hcz21_9
                            try clear hcz24_0
                            try clear hcz24_1
                            try clear hcz24_10
                            try clear hcz24_2
                            try clear hcz24_3
                            try clear hcz24_4
                            try clear hcz24_5
                            try clear hcz24_6
                            try clear hcz24_7
                            try clear hcz24_8
                            try clear hcz24_9
                            try clear hcz27_0
                            try clear hcz27_1
                            try clear hcz27_10
                            try clear hcz27_2
                            try clear hcz27_3
                            try clear hcz27_4
                            try clear hcz27_5
                            try clear hcz27_6
                            try clear hcz27_7
                            try clear hcz27_8
                            try clear hcz27_9
                            try clear hcz31_0
                            try clear hcz31_1
                            try clear hcz31_10
                            try clear hcz31_2
                            try clear hcz31_3
                            try clear hcz31_4
                            try clear hcz31_5
                            try clear hcz31_6
                            try clear hcz31_7
                            try clear hcz31_8
                            try clear hcz31_9
                            try clear hcz34_0
                            try clear hcz34_1
                            try clear hcz34_10
                            try clear hcz34_2
                            try clear hcz34_3
                            try clear hcz34_4
                            try clear hcz34_5
                            try clear hcz34_6
                            try clear hcz34_7
                            try clear hcz34_8
                            try clear hcz34_9
                            try clear hcz37_0
                            try clear hcz37_1
                            try clear hcz37_10
                            try clear hcz37_2
                            try clear hcz37_3
                            try clear hcz37_4
                            try clear hcz37_5
                            try clear hcz37_6
                            try clear hcz37_7
                            try clear hcz37_8
                            try clear hcz37_9
                            try clear hcz4_0
                            try clear hcz7_0
                            try clear hfz11_0
                            try clear hfz14_0
                            try clear hfz21_0
                            try clear hfz21_1
                            try clear hfz21_10
                            try clear hfz21_2
                            try clear hfz21_3
                            try clear hfz21_4
                            try clear hfz21_5
                            try clear hfz21_6
                            try clear hfz21_7
                            try clear hfz21_8
                            try clear hfz21_9
                            try clear hfz24_0
                            try clear hfz24_1
                            try clear hfz24_10
                            try clear hfz24_2
                            try clear hfz24_3
                            try clear hfz24_4
                            try clear hfz24_5
                            try clear hfz24_6
                            try clear hfz24_7
                            try clear hfz24_8
                            try clear hfz24_9
                            try clear hfz27_0
                            try clear hfz27_1
                            try clear hfz27_10
                            try clear hfz27_2
                            try clear hfz27_3
                            try clear hfz27_4
                            try clear hfz27_5
                            try clear hfz27_6
                            try clear hfz27_7
                            try clear hfz27_8
                            try clear hfz27_9
                            try clear hfz31_0
                            try clear hfz31_1
                            try clear hfz31_10
                            try clear hfz31_2
                            try clear hfz31_3
                            try clear hfz31_4
                            try clear hfz31_5
                            try clear hfz31_6
                            try clear hfz31_7
                            try clear hfz31_8
                            try clear hfz31_9
                            try clear hfz34_0
                            try clear hfz34_1
                            try clear hfz34_10
                            try clear hfz34_2
                            try clear hfz34_3
                            try clear hfz34_4
                            try clear hfz34_5
                            try clear hfz34_6
                            try clear hfz34_7
                            try clear hfz34_8
                            try clear hfz34_9
                            try clear hfz37_0
                            try clear hfz37_1
                            try clear hfz37_10
                            try clear hfz37_2
                            try clear hfz37_3
                            try clear hfz37_4
                            try clear hfz37_5
                            try clear hfz37_6
                            try clear hfz37_7
                            try clear hfz37_8
                            try clear hfz37_9
                            try clear hfz4_0
                            try clear hfz7_0
                            try clear hx325_0
                            try clear hx325_1
                            try clear hx325_10
                            try clear hx325_2
                            try clear hx325_3
                            try clear hx325_4
                            try clear hx325_5
                            try clear hx325_6
                            try clear hx325_7
                            try clear hx325_8
                            try clear hx325_9
                            try clear hx327_0
                            try clear p2
                            try clear p3
                            try clear p32
                            try clear p325
                            try clear p327
                            try clear q3
                            try clear q32
                            try clear q325
                            try clear q327
                            obtain ⟨x4_3, x51_3, rfl, HA, HK3, HO_4, BK321, BK326, HB⟩ := hrel
                            cases gk with
                            | zero => exact absurd HA.out (by simp [trie_Check.l1])
                            | succ k3 =>
                              have H := HA.out
                              clear HA
                              simp only [trie_Check.l1] at H
                              by_cases c38 : x51_3 < 10
                              · rw [if_pos c38] at H
                                have c38b0 : decide (x51_3 < 10) = true := decide_eq_true c38
                                clear c38
                                by_cases c39 : 0 ≤ x51_3
                                · rw [if_pos c39] at H
                                  have c39b0 : decide (0 ≤ x51_3) = true := decide_eq_true c39
                                  clear c39
                                  by_cases c41 : (at75 (⟨((rd_T77 l0_0 x25_1).f0.f0), ((rd_T77 l0_0 x25_1).f0.f1), ((rd_T77 l0_0 x25_1).f0.f2), ((rd_T77 l0_0 x25_1).f0.f3), ((rd_T77 l0_0 x25_1).f0.f4), ((rd_T77 l0_0 x25_1).f0.f5), ((rd_T77 l0_0 x25_1).f0.f6), ((rd_T77 l0_0 x25_1).f0.f7), ((rd_T77 l0_0 x25_1).f0.f8), ((rd_T77 l0_0 x25_1).f0.f9)⟩ : S75) x51_3) = 0
                                  · rw [if_pos c41] at H
                                    have c41b0 : ((at75 (⟨((rd_T77 l0_0 x25_1).f0.f0), ((rd_T77 l0_0 x25_1).f0.f1), ((rd_T77 l0_0 x25_1).f0.f2), ((rd_T77 l0_0 x25_1).f0.f3), ((rd_T77 l0_0 x25_1).f0.f4), ((rd_T77 l0_0 x25_1).f0.f5), ((rd_T77 l0_0 x25_1).f0.f6), ((rd_T77 l0_0 x25_1).f0.f7), ((rd_T77 l0_0 x25_1).f0.f8), ((rd_T77 l0_0 x25_1).f0.f9)⟩ : S75) x51_3) == 0) = true := beq_iff_eq.mpr c41
                                    have c41b1 : ((at75 (⟨((rd_T77 l0_0 x25_1).f0.f0), ((rd_T77 l0_0 x25_1).f0.f1), ((rd_T77 l0_0 x25_1).f0.f2), ((rd_T77 l0_0 x25_1).f0.f3), ((rd_T77 l0_0 x25_1).f0.f4), ((rd_T77 l0_0 x25_1).f0.f5), ((rd_T77 l0_0 x25_1).f0.f6), ((rd_T77 l0_0 x25_1).f0.f7), ((rd_T77 l0_0 x25_1).f0.f8), ((rd_T77 l0_0 x25_1).f0.f9)⟩ : S75) x51_3) != 0) = false := bne_eq_false_iff_eq.mpr c41
                                    clear c41
                                    have H' := Aside0.mk H
                                    clear H
                                    have p40 : 0 ≤ (x51_3 : Int) := (by first | omega | exact of_decide_eq_true (by first | (with_reducible assumption) | assumption))
                                    have q40 : x51_3 < (10 : Int) := (by first | omega | exact of_decide_eq_true (by first | (with_reducible assumption) | assumption))
                                    have hx40_0 := index_at75 (s := ⟨((rd_T77 l0_0 x25_1).f0.f0), ((rd_T77 l0_0 x25_1).f0.f1), ((rd_T77 l0_0 x25_1).f0.f2), ((rd_T77 l0_0 x25_1).f0.f3), ((rd_T77 l0_0 x25_1).f0.f4), ((rd_T77 l0_0 x25_1).f0.f5), ((rd_T77 l0_0 x25_1).f0.f6), ((rd_T77 l0_0 x25_1).f0.f7), ((rd_T77 l0_0 x25_1).f0.f8), ((rd_T77 l0_0 x25_1).f0.f9)⟩) p40 q40
                                    replace p40 := eq_true p40
                                    replace q40 := eq_true q40
                                    go_wp2
                                    go_roundg k3
                                    case measure => have := HK1.out; have := HJ17.out; have := HK3.out; omega
                                    case rel => exact ⟨(x4_3), (wrap64 (x51_3 + 1)), (by first | rfl | (simp; done) | (simp [*]; done)), H', ⟨by have := HK1.out; have := HJ17.out; have := HK3.out; omega⟩, ⟨by (with_reducible repeat (first | apply Kd.R_alloc | apply Kd.R_drewN | apply Kd.R_drew)); exact HO_4.out⟩, ⟨by (with_reducible repeat (first | refine blk_drewN ?_ _ | refine blk_drew ?_ | refine blk_alloc ?_ _)); exact BK321.out⟩, ⟨by (with_reducible repeat (first | refine blk_drewN ?_ _ | refine blk_drew ?_ | refine blk_alloc ?_ _)); exact BK326.out⟩, ⟨by repeat (first | (with_reducible first | exact HB.out | apply below_alloc | apply pw_below_drewN | apply below_drew1 | refine below_set ?_ GE321.out | refine below_set ?_ GE326.out) | exact HB.out)⟩⟩
                                  · rw [if_neg c41] at H
                                    have c41b0 : ((at75 (⟨((rd_T77 l0_0 x25_1).f0.f0), ((rd_T77 l0_0 x25_1).f0.f1), ((rd_T77 l0_0 x25_1).f0.f2), ((rd_T77 l0_0 x25_1).f0.f3), ((rd_T77 l0_0 x25_1).f0.f4), ((rd_T77 l0_0 x25_1).f0.f5), ((rd_T77 l0_0 x25_1).f0.f6), ((rd_T77 l0_0 x25_1).f0.f7), ((rd_T77 l0_0 x25_1).f0.f8), ((rd_T77 l0_0 x25_1).f0.f9)⟩ : S75) x51_3) == 0) = false := beq_eq_false_iff_ne.mpr c41
                                    have c41b1 : ((at75 (⟨((rd_T77 l0_0 x25_1).f0.f0), ((rd_T77 l0_0 x25_1).f0.f1), ((rd_T77 l0_0 x25_1).f0.f2), ((rd_T77 l0_0 x25_1).f0.f3), ((rd_T77 l0_0 x25_1).f0.f4), ((rd_T77 l0_0 x25_1).f0.f5), ((rd_T77 l0_0 x25_1).f0.f6), ((rd_T77 l0_0 x25_1).f0.f7), ((rd_T77 l0_0 x25_1).f0.f8), ((rd_T77 l0_0 x25_1).f0.f9)⟩ : S75) x51_3) != 0) = true := bne_iff_ne.mpr c41
                                    by_cases c42 : (at75 (⟨((rd_T77 l0_0 x25_1).f0.f0), ((rd_T77 l0_0 x25_1).f0.f1), ((rd_T77 l0_0 x25_1).f0.f2), ((rd_T77 l0_0 x25_1).f0.f3), ((rd_T77 l0_0 x25_1).f0.f4), ((rd_T77 l0_0 x25_1).f0.f5), ((rd_T77 l0_0 x25_1).f0.f6), ((rd_T77 l0_0 x25_1).f0.f7), ((rd_T77 l0_0 x25_1).f0.f8), ((rd_T77 l0_0 x25_1).f0.f9)⟩ : S75) x51_3) ≤ x25_1
                                    · rw [if_pos c42] at H
                                      have c42b0 : decide ((at75 (⟨((rd_T77 l0_0 x25_1).f0.f0), ((rd_T77 l0_0 x25_1).f0.f1), ((rd_T77 l0_0 x25_1).f0.f2), ((rd_T77 l0_0 x25_1).f0.f3), ((rd_T77 l0_0 x25_1).f0.f4), ((rd_T77 l0_0 x25_1).f0.f5), ((rd_T77 l0_0 x25_1).f0.f6), ((rd_T77 l0_0 x25_1).f0.f7), ((rd_T77 l0_0 x25_1).f0.f8), ((rd_T77 l0_0 x25_1).f0.f9)⟩ : S75) x51_3) ≤ x25_1) = true := decide_eq_true c42
                                      clear c42
                                      obtain rfl := Option.some.inj H
                                      have p40 : 0 ≤ (x51_3 : Int) := (by first | omega | exact of_decide_eq_true (by first | (with_reducible assumption) | assumption))
                                      have q40 : x51_3 < (10 : Int) := (by first | omega | exact of_decide_eq_true (by first | (with_reducible assumption) | assumption))
                                      have hx40_0 := index_at75 (s := ⟨((rd_T77 l0_0 x25_1).f0.f0), ((rd_T77 l0_0 x25_1).f0.f1), ((rd_T77 l0_0 x25_1).f0.f2), ((rd_T77 l0_0 x25_1).f0.f3), ((rd_T77 l0_0 x25_1).f0.f4), ((rd_T77 l0_0 x25_1).f0.f5), ((rd_T77 l0_0 x25_1).f0.f6), ((rd_T77 l0_0 x25_1).f0.f7), ((rd_T77 l0_0 x25_1).f0.f8), ((rd_T77 l0_0 x25_1).f0.f9)⟩) p40 q40
                                      replace p40 := eq_true p40
                                      replace q40 := eq_true q40
                                      go_wp2
                                      go_ret
                                      exact ⟨by first | rfl | (simp [errW_none, errW_some] <;> rfl) | (simp [*, errW_none, errW_some] <;> rfl), by repeat (first | (with_reducible first | exact HB.out | apply below_alloc | apply pw_below_drewN | apply below_drew1 | refine below_set ?_ GE321.out | refine below_set ?_ GE326.out) | exact HB.out)⟩
                                    · rw [if_neg c42] at H
                                      have c42b0 : decide ((at75 (⟨((rd_T77 l0_0 x25_1).f0.f0), ((rd_T77 l0_0 x25_1).f0.f1), ((rd_T77 l0_0 x25_1).f0.f2), ((rd_T77 l0_0 x25_1).f0.f3), ((rd_T77 l0_0 x25_1).f0.f4), ((rd_T77 l0_0 x25_1).f0.f5), ((rd_T77 l0_0 x25_1).f0.f6), ((rd_T77 l0_0 x25_1).f0.f7), ((rd_T77 l0_0 x25_1).f0.f8), ((rd_T77 l0_0 x25_1).f0.f9)⟩ : S75) x51_3) ≤ x25_1) = false := decide_eq_false c42
                                      clear c42
                                      by_cases c43 : (at75 (⟨((rd_T77 l0_0 x25_1).f0.f0), ((rd_T77 l0_0 x25_1).f0.f1), ((rd_T77 l0_0 x25_1).f0.f2), ((rd_T77 l0_0 x25_1).f0.f3), ((rd_T77 l0_0 x25_1).f0.f4), ((rd_T77 l0_0 x25_1).f0.f5), ((rd_T77 l0_0 x25_1).f0.f6), ((rd_T77 l0_0 x25_1).f0.f7), ((rd_T77 l0_0 x25_1).f0.f8), ((rd_T77 l0_0 x25_1).f0.f9)⟩ : S75) x51_3) ≥ (l0_0.length : Int)
                                      · rw [if_pos c43] at H
                                        have c43b0 : decide ((l0_0.length : Int) ≤ (at75 (⟨((rd_T77 l0_0 x25_1).f0.f0), ((rd_T77 l0_0 x25_1).f0.f1), ((rd_T77 l0_0 x25_1).f0.f2), ((rd_T77 l0_0 x25_1).f0.f3), ((rd_T77 l0_0 x25_1).f0.f4), ((rd_T77 l0_0 x25_1).f0.f5), ((rd_T77 l0_0 x25_1).f0.f6), ((rd_T77 l0_0 x25_1).f0.f7), ((rd_T77 l0_0 x25_1).f0.f8), ((rd_T77 l0_0 x25_1).f0.f9)⟩ : S75) x51_3)) = true := decide_eq_true c43
                                        clear c43
                                        obtain rfl := Option.some.inj H
                                        have p40 : 0 ≤ (x51_3 : Int) := (by first | omega | exact of_decide_eq_true (by first | (with_reducible assumption) | assumption))
                                        have q40 : x51_3 < (10 : Int) := (by first | omega | exact of_decide_eq_true (by first | (with_reducible assumption) | assumption))
                                        have hx40_0 := index_at75 (s := ⟨((rd_T77 l0_0 x25_1).f0.f0), ((rd_T77 l0_0 x25_1).f0.f1), ((rd_T77 l0_0 x25_1).f0.f2), ((rd_T77 l0_0 x25_1).f0.f3), ((rd_T77 l0_0 x25_1).f0.f4), ((rd_T77 l0_0 x25_1).f0.f5), ((rd_T77 l0_0 x25_1).f0.f6), ((rd_T77 l0_0 x25_1).f0.f7), ((rd_T77 l0_0 x25_1).f0.f8), ((rd_T77 l0_0 x25_1).f0.f9)⟩) p40 q40
                                        replace p40 := eq_true p40
                                        replace q40 := eq_true q40
                                        have hnb44 := NB321_326.out
                                        have hnc44 := NB326_321.out
                                        have hcz45_0 : wr.cell? ⟨gb321, 0, none⟩ = some (.slice (some ad325) l0_0.length c0_0) := (blk_cell BK321.out 0).trans rfl
                                        have hfz45_0 := blk_frozen BK321.out 0
                                        go_wp2
                                        go_ret
                                        exact ⟨by first | rfl | (simp [errW_none, errW_some] <;> rfl) | (simp [*, errW_none, errW_some] <;> rfl), by repeat (first | (with_reducible first | exact HB.out | apply below_alloc | apply pw_below_drewN | apply below_drew1 | refine below_set ?_ GE321.out | refine below_set ?_ GE326.out) | exact HB.out)⟩
                                      · rw [if_neg c43] at H
                                        have c43b0 : decide ((l0_0.length : Int) ≤ (at75 (⟨((rd_T77 l0_0 x25_1).f0.f0), ((rd_T77 l0_0 x25_1).f0.f1), ((rd_T77 l0_0 x25_1).f0.f2), ((rd_T77 l0_0 x25_1).f0.f3), ((rd_T77 l0_0 x25_1).f0.f4), ((rd_T77 l0_0 x25_1).f0.f5), ((rd_T77 l0_0 x25_1).f0.f6), ((rd_T77 l0_0 x25_1).f0.f7), ((rd_T77 l0_0 x25_1).f0.f8), ((rd_T77 l0_0 x25_1).f0.f9)⟩ : S75) x51_3)) = false := decide_eq_false c43
                                        clear c43
                                        by_cases c46 : 0 ≤ (at75 (⟨((rd_T77 l0_0 x25_1).f0.f0), ((rd_T77 l0_0 x25_1).f0.f1), ((rd_T77 l0_0 x25_1).f0.f2), ((rd_T77 l0_0 x25_1).f0.f3), ((rd_T77 l0_0 x25_1).f0.f4), ((rd_T77 l0_0 x25_1).f0.f5), ((rd_T77 l0_0 x25_1).f0.f6), ((rd_T77 l0_0 x25_1).f0.f7), ((rd_T77 l0_0 x25_1).f0.f8), ((rd_T77 l0_0 x25_1).f0.f9)⟩ : S75) x51_3)
                                        · rw [if_pos c46] at H
                                          have c46b0 : decide (0 ≤ (at75 (⟨((rd_T77 l0_0 x25_1).f0.f0), ((rd_T77 l0_0 x25_1).f0.f1), ((rd_T77 l0_0 x25_1).f0.f2), ((rd_T77 l0_0 x25_1).f0.f3), ((rd_T77 l0_0 x25_1).f0.f4), ((rd_T77 l0_0 x25_1).f0.f5), ((rd_T77 l0_0 x25_1).f0.f6), ((rd_T77 l0_0 x25_1).f0.f7), ((rd_T77 l0_0 x25_1).f0.f8), ((rd_T77 l0_0 x25_1).f0.f9)⟩ : S75) x51_3)) = true := decide_eq_true c46
                                          clear c46
                                          by_cases c47 : (at75 (⟨((rd_T77 l0_0 x25_1).f0.f0), ((rd_T77 l0_0 x25_1).f0.f1), ((rd_T77 l0_0 x25_1).f0.f2), ((rd_T77 l0_0 x25_1).f0.f3), ((rd_T77 l0_0 x25_1).f0.f4), ((rd_T77 l0_0 x25_1).f0.f5), ((rd_T77 l0_0 x25_1).f0.f6), ((rd_T77 l0_0 x25_1).f0.f7), ((rd_T77 l0_0 x25_1).f0.f8), ((rd_T77 l0_0 x25_1).f0.f9)⟩ : S75) x51_3) < (x4_3.length : Int)
                                          · rw [if_pos c47] at H
                                            have c47b0 : decide ((at75 (⟨((rd_T77 l0_0 x25_1).f0.f0), ((rd_T77 l0_0 x25_1).f0.f1), ((rd_T77 l0_0 x25_1).f0.f2), ((rd_T77 l0_0 x25_1).f0.f3), ((rd_T77 l0_0 x25_1).f0.f4), ((rd_T77 l0_0 x25_1).f0.f5), ((rd_T77 l0_0 x25_1).f0.f6), ((rd_T77 l0_0 x25_1).f0.f7), ((rd_T77 l0_0 x25_1).f0.f8), ((rd_T77 l0_0 x25_1).f0.f9)⟩ : S75) x51_3) < (x4_3.length : Int)) = true := decide_eq_true c47
                                            clear c47
                                            by_cases c48 : (rd x4_3 (at75 (⟨((rd_T77 l0_0 x25_1).f0.f0), ((rd_T77 l0_0 x25_1).f0.f1), ((rd_T77 l0_0 x25_1).f0.f2), ((rd_T77 l0_0 x25_1).f0.f3), ((rd_T77 l0_0 x25_1).f0.f4), ((rd_T77 l0_0 x25_1).f0.f5), ((rd_T77 l0_0 x25_1).f0.f6), ((rd_T77 l0_0 x25_1).f0.f7), ((rd_T77 l0_0 x25_1).f0.f8), ((rd_T77 l0_0 x25_1).f0.f9)⟩ : S75) x51_3)) > 0
                                            · rw [if_pos c48] at H
                                              have c48b0 : decide (0 < (rd x4_3 (at75 (⟨((rd_T77 l0_0 x25_1).f0.f0), ((rd_T77 l0_0 x25_1).f0.f1), ((rd_T77 l0_0 x25_1).f0.f2), ((rd_T77 l0_0 x25_1).f0.f3), ((rd_T77 l0_0 x25_1).f0.f4), ((rd_T77 l0_0 x25_1).f0.f5), ((rd_T77 l0_0 x25_1).f0.f6), ((rd_T77 l0_0 x25_1).f0.f7), ((rd_T77 l0_0 x25_1).f0.f8), ((rd_T77 l0_0 x25_1).f0.f9)⟩ : S75) x51_3))) = true := decide_eq_true c48
                                              clear c48
                                              obtain rfl := Option.some.inj H
                                              have p40 : 0 ≤ (x51_3 : Int) := (by first | omega | exact of_decide_eq_true (by first | (with_reducible assumption) | assumption))
                                              have q40 : x51_3 < (10 : Int) := (by first | omega | exact of_decide_eq_true (by first | (with_reducible assumption) | assumption))
                                              have hx40_0 := index_at75 (s := ⟨((rd_T77 l0_0 x25_1).f0.f0), ((rd_T77 l0_0 x25_1).f0.f1), ((rd_T77 l0_0 x25_1).f0.f2), ((rd_T77 l0_0 x25_1).f0.f3), ((rd_T77 l0_0 x25_1).f0.f4), ((rd_T77 l0_0 x25_1).f0.f5), ((rd_T77 l0_0 x25_1).f0.f6), ((rd_T77 l0_0 x25_1).f0.f7), ((rd_T77 l0_0 x25_1).f0.f8), ((rd_T77 l0_0 x25_1).f0.f9)⟩) p40 q40
                                              replace p40 := eq_true p40
                                              replace q40 := eq_true q40
                                              have hnb49 := NB321_326.out
                                              have hnc49 := NB326_321.out
                                              have hcz50_0 : wr.cell? ⟨gb321, 0, none⟩ = some (.slice (some ad325) l0_0.length c0_0) := (blk_cell BK321.out 0).trans rfl
                                              have hfz50_0 := blk_frozen BK321.out 0
                                              obtain ⟨Ao51, co51, eo51⟩ := Kd.R_slice HO_4.out
                                              subst eo51
                                              have p328 : 0 ≤ ((at75 (⟨((rd_T77 l0_0 x25_1).f0.f0), ((rd_T77 l0_0 x25_1).f0.f1), ((rd_T77 l0_0 x25_1).f0.f2), ((rd_T77 l0_0 x25_1).f0.f3), ((rd_T77 l0_0 x25_1).f0.f4), ((rd_T77 l0_0 x25_1).f0.f5), ((rd_T77 l0_0 x25_1).f0.f6), ((rd_T77 l0_0 x25_1).f0.f7), ((rd_T77 l0_0 x25_1).f0.f8), ((rd_T77 l0_0 x25_1).f0.f9)⟩ : S75) x51_3) : Int) := of_decide_eq_true (by first | (with_reducible assumption) | assumption)
                                              have q328 : (at75 (⟨((rd_T77 l0_0 x25_1).f0.f0), ((rd_T77 l0_0 x25_1).f0.f1), ((rd_T77 l0_0 x25_1).f0.f2), ((rd_T77 l0_0 x25_1).f0.f3), ((rd_T77 l0_0 x25_1).f0.f4), ((rd_T77 l0_0 x25_1).f0.f5), ((rd_T77 l0_0 x25_1).f0.f6), ((rd_T77 l0_0 x25_1).f0.f7), ((rd_T77 l0_0 x25_1).f0.f8), ((rd_T77 l0_0 x25_1).f0.f9)⟩ : S75) x51_3) < (x4_3.length : Int) := of_decide_eq_true (by first | (with_reducible assumption) | assumption)
                                              obtain ⟨ad328, e328, hx328_0⟩ := Kd.at_int (Kd.R_reads' HO_4.out).2.2 (at75 (⟨((rd_T77 l0_0 x25_1).f0.f0), ((rd_T77 l0_0 x25_1).f0.f1), ((rd_T77 l0_0 x25_1).f0.f2), ((rd_T77 l0_0 x25_1).f0.f3), ((rd_T77 l0_0 x25_1).f0.f4), ((rd_T77 l0_0 x25_1).f0.f5), ((rd_T77 l0_0 x25_1).f0.f6), ((rd_T77 l0_0 x25_1).f0.f7), ((rd_T77 l0_0 x25_1).f0.f8), ((rd_T77 l0_0 x25_1).f0.f9)⟩ : S75) x51_3) p328 q328
                                              cases e328
                                              replace p328 := eq_true p328
                                              replace q328 := eq_true q328
                                              go_wp2
                                              go_ret
                                              exact ⟨by first | rfl | (simp [errW_none, errW_some] <;> rfl) | (simp [*, errW_none, errW_some] <;> rfl), by repeat (first | (with_reducible first | exact HB.out | apply below_alloc | apply pw_below_drewN | apply below_drew1 | refine below_set ?_ GE321.out | refine below_set ?_ GE326.out) | exact HB.out)⟩
                                            · rw [if_neg c48] at H
                                              have c48b0 : decide (0 < (rd x4_3 (at75 (⟨((rd_T77 l0_0 x25_1).f0.f0), ((rd_T77 l0_0 x25_1).f0.f1), ((rd_T77 l0_0 x25_1).f0.f2), ((rd_T77 l0_0 x25_1).f0.f3), ((rd_T77 l0_0 x25_1).f0.f4), ((rd_T77 l0_0 x25_1).f0.f5), ((rd_T77 l0_0 x25_1).f0.f6), ((rd_T77 l0_0 x25_1).f0.f7), ((rd_T77 l0_0 x25_1).f0.f8), ((rd_T77 l0_0 x25_1).f0.f9)⟩ : S75) x51_3))) = false := decide_eq_false c48
                                              clear c48
                                              by_cases c52 : 0 ≤ x25_1
                                              · rw [if_pos c52] at H
                                                have c52b0 : decide (0 ≤ x25_1) = true := decide_eq_true c52
                                                clear c52
                                                by_cases c53 : x25_1 < (x4_3.length : Int)
                                                · rw [if_pos c53] at H
                                                  have c53b0 : decide (x25_1 < (x4_3.length : Int)) = true := decide_eq_true c53
                                                  clear c53
                                                  by_cases c54 : (rd x4_3 x25_1) = 15
                                                  · rw [if_pos c54] at H
                                                    have c54b0 : ((rd x4_3 x25_1) == 15) = true := beq_iff_eq.mpr c54
                                                    have c54b1 : ((rd x4_3 x25_1) != 15) = false := bne_eq_false_iff_eq.mpr c54
                                                    clear c54
                                                    obtain rfl := Option.some.inj H
                                                    have p40 : 0 ≤ (x51_3 : Int) := (by first | omega | exact of_decide_eq_true (by first | (with_reducible assumption) | assumption))
                                                    have q40 : x51_3 < (10 : Int) := (by first | omega | exact of_decide_eq_true (by first | (with_reducible assumption) | assumption))
                                                    have hx40_0 := index_at75 (s := ⟨((rd_T77 l0_0 x25_1).f0.f0), ((rd_T77 l0_0 x25_1).f0.f1), ((rd_T77 l0_0 x25_1).f0.f2), ((rd_T77 l0_0 x25_1).f0.f3), ((rd_T77 l0_0 x25_1).f0.f4), ((rd_T77 l0_0 x25_1).f0.f5), ((rd_T77 l0_0 x25_1).f0.f6), ((rd_T77 l0_0 x25_1).f0.f7), ((rd_T77 l0_0 x25_1).f0.f8), ((rd_T77 l0_0 x25_1).f0.f9)⟩) p40 q40
                                                    replace p40 := eq_true p40
                                                    replace q40 := eq_true q40
                                                    have hnb55 := NB321_326.out
                                                    have hnc55 := NB326_321.out
                                                    have hcz56_0 : wr.cell? ⟨gb321, 0, none⟩ = some (.slice (some ad325) l0_0.length c0_0) := (blk_cell BK321.out 0).trans rfl
                                                    have hfz56_0 := blk_frozen BK321.out 0
                                                    obtain ⟨Ao57, co57, eo57⟩ := Kd.R_slice HO_4.out
                                                    subst eo57
                                                    have p328 : 0 ≤ ((at75 (⟨((rd_T77 l0_0 x25_1).f0.f0), ((rd_T77 l0_0 x25_1).f0.f1), ((rd_T77 l0_0 x25_1).f0.f2), ((rd_T77 l0_0 x25_1).f0.f3), ((rd_T77 l0_0 x25_1).f0.f4), ((rd_T77 l0_0 x25_1).f0.f5), ((rd_T77 l0_0 x25_1).f0.f6), ((rd_T77 l0_0 x25_1).f0.f7), ((rd_T77 l0_0 x25_1).f0.f8), ((rd_T77 l0_0 x25_1).f0.f9)⟩ : S75) x51_3) : Int) := of_decide_eq_true (by first | (with_reducible assumption) | assumption)
                                                    have q328 : (at75 (⟨((rd_T77 l0_0 x25_1).f0.f0), ((rd_T77 l0_0 x25_1).f0.f1), ((rd_T77 l0_0 x25_1).f0.f2), ((rd_T77 l0_0 x25_1).f0.f3), ((rd_T77 l0_0 x25_1).f0.f4), ((rd_T77 l0_0 x25_1).f0.f5), ((rd_T77 l0_0 x25_1).f0.f6), ((rd_T77 l0_0 x25_1).f0.f7), ((rd_T77 l0_0 x25_1).f0.f8), ((rd_T77 l0_0 x25_1).f0.f9)⟩ : S75) x51_3) < (x4_3.length : Int) := of_decide_eq_true (by first | (with_reducible assumption) | assumption)
                                                    obtain ⟨ad328, e328, hx328_0⟩ := Kd.at_int (Kd.R_reads' HO_4.out).2.2 (at75 (⟨((rd_T77 l0_0 x25_1).f0.f0), ((rd_T77 l0_0 x25_1).f0.f1), ((rd_T77 l0_0 x25_1).f0.f2), ((rd_T77 l0_0 x25_1).f0.f3), ((rd_T77 l0_0 x25_1).f0.f4), ((rd_T77 l0_0 x25_1).f0.f5), ((rd_T77 l0_0 x25_1).f0.f6), ((rd_T77 l0_0 x25_1).f0.f7), ((rd_T77 l0_0 x25_1).f0.f8), ((rd_T77 l0_0 x25_1).f0.f9)⟩ : S75) x51_3) p328 q328
                                                    cases e328
                                                    replace p328 := eq_true p328
                                                    replace q328 := eq_true q328
                                                    have p329 : 0 ≤ (x25_1 : Int) := of_decide_eq_true (by first | (with_reducible assumption) | assumption)
                                                    have q329 : x25_1 < (x4_3.length : Int) := of_decide_eq_true (by first | (with_reducible assumption) | assumption)
                                                    obtain ⟨ad329, e329, hx329_0⟩ := Kd.at_int (Kd.R_reads' HO_4.out).2.2 x25_1 p329 q329
                                                    obtain rfl : ad328 = ad329 := (by injection e329)
                                                    replace p329 := eq_true p329
                                                    replace q329 := eq_true q329
                                                    go_wp2
                                                    go_ret
                                                    exact ⟨by first | rfl | (simp [errW_none, errW_some] <;> rfl) | (simp [*, errW_none, errW_some] <;> rfl), by repeat (first | (with_reducible first | exact HB.out | apply below_alloc | apply pw_below_drewN | apply below_drew1 | refine below_set ?_ GE321.out | refine below_set ?_ GE326.out) | exact HB.out)⟩
                                                  · rw [if_neg c54] at H
                                                    have c54b0 : ((rd x4_3 x25_1) == 15) = false := beq_eq_false_iff_ne.mpr c54
                                                    have c54b1 : ((rd x4_3 x25_1) != 15) = true := bne_iff_ne.mpr c54
                                                    obtain ⟨y331, hy331⟩ : ∃ y_ : List Int, y_ = (x4_3.set ((at75 (⟨((rd_T77 l0_0 x25_1).f0.f0), ((rd_T77 l0_0 x25_1).f0.f1), ((rd_T77 l0_0 x25_1).f0.f2), ((rd_T77 l0_0 x25_1).f0.f3), ((rd_T77 l0_0 x25_1).f0.f4), ((rd_T77 l0_0 x25_1).f0.f5), ((rd_T77 l0_0 x25_1).f0.f6), ((rd_T77 l0_0 x25_1).f0.f7), ((rd_T77 l0_0 x25_1).f0.f8), ((rd_T77 l0_0 x25_1).f0.f9)⟩ : S75) x51_3) : Int).toNat (wrap64 ((rd x4_3 x25_1) + 1))) := ⟨_, rfl⟩
                                                    replace H : (trie_Check.l1 k3 y331 x25_1 l0_0 (l0_0.length : Int) x25_1 (wrap64 (x51_3 + 1)) ((rd_T77 l0_0 x25_1).f0.f0) ((rd_T77 l0_0 x25_1).f0.f1) ((rd_T77 l0_0 x25_1).f0.f2) ((rd_T77 l0_0 x25_1).f0.f3) ((rd_T77 l0_0 x25_1).f0.f4) ((rd_T77 l0_0 x25_1).f0.f5) ((rd_T77 l0_0 x25_1).f0.f6) ((rd_T77 l0_0 x25_1).f0.f7) ((rd_T77 l0_0 x25_1).f0.f8) ((rd_T77 l0_0 x25_1).f0.f9) l0_0) = some r := by first | (rw [hy331]; with_reducible exact H) | (have H2_ := (Option.bind_some _ _).symm.trans H; rw [hy331]; with_reducible exact H2_) | (have H2_ := (Option.bind_some _ _).symm.trans H; with_reducible exact H2_) | with_reducible exact H | (rw [hy331]; exact H) | exact H
                                                    have Ny331 := Aside0.mk hy331
                                                    clear hy331
                                                    have H' := Aside0.mk H
                                                    clear H
                                                    have p40 : 0 ≤ (x51_3 : Int) := (by first | omega | exact of_decide_eq_true (by first | (with_reducible assumption) | assumption))
                                                    have q40 : x51_3 < (10 : Int) := (by first | omega | exact of_decide_eq_true (by first | (with_reducible assumption) | assumption))
                                                    have hx40_0 := index_at75 (s := ⟨((rd_T77 l0_0 x25_1).f0.f0), ((rd_T77 l0_0 x25_1).f0.f1), ((rd_T77 l0_0 x25_1).f0.f2), ((rd_T77 l0_0 x25_1).f0.f3), ((rd_T77 l0_0 x25_1).f0.f4), ((rd_T77 l0_0 x25_1).f0.f5), ((rd_T77 l0_0 x25_1).f0.f6), ((rd_T77 l0_0 x25_1).f0.f7), ((rd_T77 l0_0 x25_1).f0.f8), ((rd_T77 l0_0 x25_1).f0.f9)⟩) p40 q40
                                                    replace p40 := eq_true p40
                                                    replace q40 := eq_true q40
                                                    have hnb59 := NB321_326.out
                                                    have hnc59 := NB326_321.out
                                                    have hcz60_0 : wr.cell? ⟨gb321, 0, none⟩ = some (.slice (some ad325) l0_0.length c0_0) := (blk_cell BK321.out 0).trans rfl
                                                    have hfz60_0 := blk_frozen BK321.out 0
                                                    obtain ⟨Ao61, co61, eo61⟩ := Kd.R_slice HO_4.out
                                                    subst eo61
                                                    have p328 : 0 ≤ ((at75 (⟨((rd_T77 l0_0 x25_1).f0.f0), ((rd_T77 l0_0 x25_1).f0.f1), ((rd_T77 l0_0 x25_1).f0.f2), ((rd_T77 l0_0 x25_1).f0.f3), ((rd_T77 l0_0 x25_1).f0.f4), ((rd_T77 l0_0 x25_1).f0.f5), ((rd_T77 l0_0 x25_1).f0.f6), ((rd_T77 l0_0 x25_1).f0.f7), ((rd_T77 l0_0 x25_1).f0.f8), ((rd_T77 l0_0 x25_1).f0.f9)⟩ : S75) x51_3) : Int) := of_decide_eq_true (by first | (with_reducible assumption) | assumption)
                                                    have q328 : (at75 (⟨((rd_T77 l0_0 x25_1).f0.f0), ((rd_T77 l0_0 x25_1).f0.f1), ((rd_T77 l0_0 x25_1).f0.f2), ((rd_T77 l0_0 x25_1).f0.f3), ((rd_T77 l0_0 x25_1).f0.f4), ((rd_T77 l0_0 x25_1).f0.f5), ((rd_T77 l0_0 x25_1).f0.f6), ((rd_T77 l0_0 x25_1).f0.f7), ((rd_T77 l0_0 x25_1).f0.f8), ((rd_T77 l0_0 x25_1).f0.f9)⟩ : S75) x51_3) < (x4_3.length : Int) := of_decide_eq_true (by first | (with_reducible assumption) | assumption)
                                                    obtain ⟨ad328, e328, hx328_0⟩ := Kd.at_int (Kd.R_reads' HO_4.out).2.2 (at75 (⟨((rd_T77 l0_0 x25_1).f0.f0), ((rd_T77 l0_0 x25_1).f0.f1), ((rd_T77 l0_0 x25_1).f0.f2), ((rd_T77 l0_0 x25_1).f0.f3), ((rd_T77 l0_0 x25_1).f0.f4), ((rd_T77 l0_0 x25_1).f0.f5), ((rd_T77 l0_0 x25_1).f0.f6), ((rd_T77 l0_0 x25_1).f0.f7), ((rd_T77 l0_0 x25_1).f0.f8), ((rd_T77 l0_0 x25_1).f0.f9)⟩ : S75) x51_3) p328 q328
                                                    cases e328
                                                    replace p328 := eq_true p328
                                                    replace q328 := eq_true q328
                                                    have p329 : 0 ≤ (x25_1 : Int) := of_decide_eq_true (by first | (with_reducible assumption) | assumption)
                                                    have q329 : x25_1 < (x4_3.length : Int) := of_decide_eq_true (by first | (with_reducible assumption) | assumption)
                                                    obtain ⟨ad329, e329, hx329_0⟩ := Kd.at_int (Kd.R_reads' HO_4.out).2.2 x25_1 p329 q329
                                                    obtain rfl : ad328 = ad329 := (by injection e329)
                                                    replace p329 := eq_true p329
                                                    replace q329 := eq_true q329
                                                    have p330 : 0 ≤ (x25_1 : Int) := of_decide_eq_true (by first | (with_reducible assumption) | assumption)
                                                    have q330 : x25_1 < (x4_3.length : Int) := of_decide_eq_true (by first | (with_reducible assumption) | assumption)
                                                    obtain ⟨ad330, e330, hx330_0⟩ := Kd.at_int (Kd.R_reads' HO_4.out).2.2 x25_1 p330 q330
                                                    obtain rfl : ad328 = ad330 := (by injection e330)
                                                    replace p330 := eq_true p330
                                                    replace q330 := eq_true q330
                                                    have p58 : 0 ≤ ((at75 (⟨((rd_T77 l0_0 x25_1).f0.f0), ((rd_T77 l0_0 x25_1).f0.f1), ((rd_T77 l0_0 x25_1).f0.f2), ((rd_T77 l0_0 x25_1).f0.f3), ((rd_T77 l0_0 x25_1).f0.f4), ((rd_T77 l0_0 x25_1).f0.f5), ((rd_T77 l0_0 x25_1).f0.f6), ((rd_T77 l0_0 x25_1).f0.f7), ((rd_T77 l0_0 x25_1).f0.f8), ((rd_T77 l0_0 x25_1).f0.f9)⟩ : S75) x51_3) : Int) := of_decide_eq_true (by first | (with_reducible assumption) | assumption)
                                                    have q58 : ((at75 (⟨((rd_T77 l0_0 x25_1).f0.f0), ((rd_T77 l0_0 x25_1).f0.f1), ((rd_T77 l0_0 x25_1).f0.f2), ((rd_T77 l0_0 x25_1).f0.f3), ((rd_T77 l0_0 x25_1).f0.f4), ((rd_T77 l0_0 x25_1).f0.f5), ((rd_T77 l0_0 x25_1).f0.f6), ((rd_T77 l0_0 x25_1).f0.f7), ((rd_T77 l0_0 x25_1).f0.f8), ((rd_T77 l0_0 x25_1).f0.f9)⟩ : S75) x51_3) : Int) < ((x4_3.length : Int) : Int) := of_decide_eq_true (by first | (with_reducible assumption) | assumption)
                                                    obtain ⟨go58, co58, eo58, gb58, gl58, cl58, HG58⟩ := Kd.R_form HO_4.out (by omega)
                                                    (first | cases eo58 | (injection eo58 with ea_ en_ ec_; (first | subst ea_ | (injection ea_ with ea_; subst ea_)); subst ec_; clear en_))
                                                    have GB58 := Aside0.mk gb58
                                                    have GG58 := Aside0.mk HG58
                                                    clear gb58 gl58 HG58
                                                    (first | simp only [add_plain] at hx328_0 | skip)
                                                    (first | simp only [add_plain] at hx329_0 | skip)
                                                    (first | simp only [add_plain] at hx330_0 | skip)
                                                    obtain ⟨hx58_0, hf58_0⟩ := Kd.R_celln 0 HO_4.out ((at75 (⟨((rd_T77 l0_0 x25_1).f0.f0), ((rd_T77 l0_0 x25_1).f0.f1), ((rd_T77 l0_0 x25_1).f0.f2), ((rd_T77 l0_0 x25_1).f0.f3), ((rd_T77 l0_0 x25_1).f0.f4), ((rd_T77 l0_0 x25_1).f0.f5), ((rd_T77 l0_0 x25_1).f0.f6), ((rd_T77 l0_0 x25_1).f0.f7), ((rd_T77 l0_0 x25_1).f0.f8), ((rd_T77 l0_0 x25_1).f0.f9)⟩ : S75) x51_3) : Int) p58 q58
                                                    replace p58 := eq_true p58
                                                    replace q58 := eq_true q58
                                                    have HP62 := Kd.R_putg HO_4.out ((at75 (⟨((rd_T77 l0_0 x25_1).f0.f0), ((rd_T77 l0_0 x25_1).f0.f1), ((rd_T77 l0_0 x25_1).f0.f2), ((rd_T77 l0_0 x25_1).f0.f3), ((rd_T77 l0_0 x25_1).f0.f4), ((rd_T77 l0_0 x25_1).f0.f5), ((rd_T77 l0_0 x25_1).f0.f6), ((rd_T77 l0_0 x25_1).f0.f7), ((rd_T77 l0_0 x25_1).f0.f8), ((rd_T77 l0_0 x25_1).f0.f9)⟩ : S75) x51_3) : Int) (wrap64 ((rd x4_3 x25_1) + 1))
                                                    go_wp2_with (first | ((with_reducible refine gate_store (t := 3) (p := 87) rfl ?_); refine store_event (t := 3) (p := 87) (v := ?vo_w63) (w1 := (wr.setCell ⟨go58, ((at75 (⟨((rd_T77 l0_0 x25_1).f0.f0), ((rd_T77 l0_0 x25_1).f0.f1), ((rd_T77 l0_0 x25_1).f0.f2), ((rd_T77 l0_0 x25_1).f0.f3), ((rd_T77 l0_0 x25_1).f0.f4), ((rd_T77 l0_0 x25_1).f0.f5), ((rd_T77 l0_0 x25_1).f0.f6), ((rd_T77 l0_0 x25_1).f0.f7), ((rd_T77 l0_0 x25_1).f0.f8), ((rd_T77 l0_0 x25_1).f0.f9)⟩ : S75) x51_3) : Int).toNat, none⟩ (.int .i64 (wrap64 ((rd x4_3 x25_1) + 1))))) ?hg ?ho ?hn ?hr ?_; (case ho => rfl); (case hg => rfl); (case hn => rfl); (case hr => first | (go_simp; done) | (go_simp; rfl)); intro w63 hw; have hg : wr.grownBy w63 (some go58) := (by rw [hw]; exact HP62.2); have hp_ : Kd.R (Kd.int .i64) 3 w63 w.heap.size (fun _ => True) (.slice (some ⟨go58, 0, none⟩) x4_3.length co61) y331 := (by rw [hw, Ny331.out]; exact HP62.1); clear HP62; have n0_ := Aside0.mk (hp_); have n1_ := Aside0.mk (blk_grown (g := gb321) (o := .cells #[.slice (some ad325) l0_0.length c0_0] 32 (0, 0)) (by (with_reducible repeat (first | refine blk_drewN ?_ _ | refine blk_drew ?_ | refine blk_alloc ?_ _)); exact BK321.out) hg (Kd.R_ne HO_4.out BK321.out (by decide))); have n2_ := Aside0.mk (blk_grown (g := gb326) (o := .cells #[.int .i64 ((rd_T77 l0_0 x25_1).f0.f0), .int .i64 ((rd_T77 l0_0 x25_1).f0.f1), .int .i64 ((rd_T77 l0_0 x25_1).f0.f2), .int .i64 ((rd_T77 l0_0 x25_1).f0.f3), .int .i64 ((rd_T77 l0_0 x25_1).f0.f4), .int .i64 ((rd_T77 l0_0 x25_1).f0.f5), .int .i64 ((rd_T77 l0_0 x25_1).f0.f6), .int .i64 ((rd_T77 l0_0 x25_1).f0.f7), .int .i64 ((rd_T77 l0_0 x25_1).f0.f8), .int .i64 ((rd_T77 l0_0 x25_1).f0.f9), .int .i64 ((rd_T77 l0_0 x25_1).f1)] 77 (0, 0)) (by (with_reducible repeat (first | refine blk_drewN ?_ _ | refine blk_drew ?_ | refine blk_alloc ?_ _)); exact BK326.out) hg (Kd.R_ne HO_4.out BK326.out (by decide))); have n3_ := Aside0.mk ((by rw [hw]; exact below_set (HB.out) GB58.out : Below w.heap.size w w63)); clear HO_4; clear BK321; clear BK326; clear HB; have HO_4 := n0_; have BK321 := n1_; have BK326 := n2_; have HB := n3_; clear n0_ n1_ n2_ n3_; clear hg hw hp_))
                                                    go_roundg k3
                                                    case measure => have := HK1.out; have := HJ17.out; have := HK3.out; omega
                                                    case rel => exact ⟨(y331), (wrap64 (x51_3 + 1)), (by first | rfl | (simp; done) | (simp [*]; done)), H', ⟨by have := HK1.out; have := HJ17.out; have := HK3.out; omega⟩, ⟨by (with_reducible repeat (first | apply Kd.R_alloc | apply Kd.R_drewN | apply Kd.R_drew)); exact HO_4.out⟩, ⟨by (with_reducible repeat (first | refine blk_drewN ?_ _ | refine blk_drew ?_ | refine blk_alloc ?_ _)); exact BK321.out⟩, ⟨by (with_reducible repeat (first | refine blk_drewN ?_ _ | refine blk_drew ?_ | refine blk_alloc ?_ _)); exact BK326.out⟩, ⟨by repeat (first | (with_reducible first | exact HB.out | apply below_alloc | apply pw_below_drewN | apply below_drew1 | refine below_set ?_ GE321.out | refine below_set ?_ GE326.out) | exact HB.out)⟩⟩
                                                · rw [if_neg c53] at H
                                                  exact absurd H (by simp)
                                              · rw [if_neg c52] at H
                                                exact absurd H (by simp)
                                          · rw [if_neg c47] at H
                                            exact absurd H (by simp)
                                        · rw [if_neg c46] at H
                                          exact absurd H (by simp)
                                · rw [if_neg c39] at H
                                  exact absurd H (by simp)
                              · rw [if_neg c38] at H
                                have c38b0 : decide (x51_3 < 10) = false := decide_eq_false c38
                                clear c38
                                have H' := Aside0.mk H
                                clear H
                                go_wp2
                                go_roundg k3
                                case measure => have := HK1.out; have := HJ17.out; have := HK3.out; omega
                                case rel => exact ⟨(x4_3), (wrap64 (x25_1 + 1)), (by first | rfl | (simp; done) | (simp [*]; done)), H', ⟨by have := HK1.out; have := HJ17.out; have := HK3.out; omega⟩, ⟨by (with_reducible repeat (first | apply Kd.R_alloc | apply Kd.R_drewN | apply Kd.R_drew)); exact HO_4.out⟩, ⟨by (with_reducible repeat (first | refine blk_drewN ?_ _ | refine blk_drew ?_ | refine blk_alloc ?_ _)); exact BK321.out⟩, ⟨by repeat (first | (with_reducible first | exact HB.out | apply below_alloc | apply pw_below_drewN | apply below_drew1 | refine below_set ?_ GE321.out | refine below_set ?_ GE326.out) | exact HB.out)⟩⟩
                  · rw [if_neg c17] at H
                    exact absurd H (by simp)
                · rw [if_neg c16] at H
                  exact absurd H (by simp)
              · rw [if_neg c15] at H
                have c15b0 : decide (x25_1 < (l0_0.length : Int)) = false := decide_eq_false c15
                clear c15
                obtain rfl := Option.some.inj H
                go_wp2
                go_ret
                exact ⟨by first | rfl | (simp [errW_none, errW_some] <;> rfl) | (simp [*, errW_none, errW_some] <;> rfl), by repeat (first | (with_reducible first | exact HB.out | apply below_alloc | apply pw_below_drewN | apply below_drew1 | refine below_set ?_ GE321.out) | exact HB.out)⟩
        · rw [if_neg c9] at H
          exact absurd H (by simp)
      · rw [if_neg c8] at H
        exact absurd H (by simp)
end Go.Proofs.YthknfclhkmehgaaDoor.Fn
