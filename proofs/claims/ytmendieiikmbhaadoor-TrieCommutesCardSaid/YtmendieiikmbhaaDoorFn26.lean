-- printed by a program of this session, out of the translation; Lean checks it
import Derived.Test.YtmendieiikmbhaaDoorFn0
import Derived.Test.YtmendieiikmbhaaDoorFn9
import Derived.Test.YtmendieiikmbhaaDoorFn12x2
import Derived.Test.YtmendieiikmbhaaDoorFn19
import Derived.Test.YtmendieiikmbhaaDoorEEnr
import Derived.Test.YtmendieiikmbhaaDoorEPut
import Derived.Test.YtmendieiikmbhaaDoorESane
namespace Go.Proofs.YtmendieiikmbhaaDoor.Fn
open Go.RowKit Go.Proofs.YtmendieiikmbhaaDoorW.PrintWords Go.Proofs.YtmendieiikmbhaaDoorW.PrintLast Go.Proofs.YtmendieiikmbhaaDoorW.PrintMore
attribute [local go_sem] max2_int min2_int max_two min_two max_three min_three max_four min_four   -- for this text's walks alone
set_option linter.unusedVariables false
set_option linter.unusedSimpArgs false

/-! ### crossbarlaw07_TrieCommutes: function 10 -/
mutual
noncomputable def crossbarlaw07_TrieCommutes.j0 : Nat → ByteArray → Int → ByteArray → Int → Bool → List (S71) → Option (Bool)
  | 0, _, _, _, _, _, _ => none
  | k + 1, x1, x2, x3, x4, x41, x447000 => if x41 = true then (some true) else ((trie_Put.f k x447000 x1 x2).bind fun bt448 => ((trie_Put.f k x447000 x3 x4).bind fun bt453 => (if bt448.2 = 0 then (crossbarlaw07_TrieCommutes.j1 k x1 x2 x3 x4 (bt453.2 != 0) x447000 bt448.1 bt453.1) else (crossbarlaw07_TrieCommutes.j1 k x1 x2 x3 x4 true x447000 bt448.1 bt453.1))))
noncomputable def crossbarlaw07_TrieCommutes.j1 : Nat → ByteArray → Int → ByteArray → Int → Bool → List (S71) → List (S71) → List (S71) → Option (Bool)
  | 0, _, _, _, _, _, _, _, _ => none
  | k + 1, x1, x2, x3, x4, x61, x447000, x453000, x458000 => if x61 = true then (some true) else ((trie_Put.f k x453000 x3 x4).bind fun bt458 => ((trie_Put.f k x458000 x1 x2).bind fun bt463 => ((trie_Drop.f k x453000 x1).bind fun bt468 => (if bt458.2 = bt463.2 then (if bt468.2 = 0 then (if bt458.2 = 0 then (crossbarlaw07_TrieCommutes.j2 k x1 false x447000 bt458.1 bt463.1 bt468.1) else (crossbarlaw07_TrieCommutes.j2 k x1 (bt458.2 != 2) x447000 bt458.1 bt463.1 bt468.1)) else (crossbarlaw07_TrieCommutes.j2 k x1 true x447000 bt458.1 bt463.1 bt468.1)) else (crossbarlaw07_TrieCommutes.j2 k x1 true x447000 bt458.1 bt463.1 bt468.1)))))
noncomputable def crossbarlaw07_TrieCommutes.j2 : Nat → ByteArray → Bool → List (S71) → List (S71) → List (S71) → List (S71) → Option (Bool)
  | 0, _, _, _, _, _, _ => none
  | k + 1, x1, x96, x447000, x463000, x468000, x473000 => if x96 = true then (some false) else ((trie_Entries.f k x463000).bind fun t473 => ((trie_Entries.f k x468000).bind fun t476 => ((crossbarref07_SameEntries.f k t473 t476).bind fun t479 => (if t479 = true then ((trie_Entries.f k x473000).bind fun t480 => ((trie_Entries.f k x447000).bind fun t483 => ((crossbarlaw07_without.f k t483 x1).bind fun t486 => ((crossbarref07_SameEntries.f k t480 t486).bind fun t489 => (some t489))))) else (some false)))))
end
noncomputable def crossbarlaw07_TrieCommutes.f (k : Nat) (l0_0 : List (S71)) (a1 : ByteArray) (a2 : Int) (a3 : ByteArray) (a4 : Int) : Option (Bool) := (crossbarlaw07_sane.f).bind fun t447 => (if t447 = true then (if (l0_0.length : Int) > 400 then (crossbarlaw07_TrieCommutes.j0 k a1 a2 a3 a4 true l0_0) else (if (a1.size : Int) > 40 then (crossbarlaw07_TrieCommutes.j0 k a1 a2 a3 a4 true l0_0) else (if (a3.size : Int) > 40 then (crossbarlaw07_TrieCommutes.j0 k a1 a2 a3 a4 true l0_0) else (crossbarlaw07_TrieCommutes.j0 k a1 a2 a3 a4 (a1.toList == a3.toList) l0_0)))) else (some false))
theorem crossbarlaw07_TrieCommutes.mono_l : ∀ k, (∀ y0 y1 y2 y3 y4 y5, LeO (crossbarlaw07_TrieCommutes.j0 k y0 y1 y2 y3 y4 y5) (crossbarlaw07_TrieCommutes.j0 (k + 1) y0 y1 y2 y3 y4 y5)) ∧ (∀ y0 y1 y2 y3 y4 y5 y6 y7, LeO (crossbarlaw07_TrieCommutes.j1 k y0 y1 y2 y3 y4 y5 y6 y7) (crossbarlaw07_TrieCommutes.j1 (k + 1) y0 y1 y2 y3 y4 y5 y6 y7)) ∧ (∀ y0 y1 y2 y3 y4 y5, LeO (crossbarlaw07_TrieCommutes.j2 k y0 y1 y2 y3 y4 y5) (crossbarlaw07_TrieCommutes.j2 (k + 1) y0 y1 y2 y3 y4 y5))
  | 0 => ⟨fun _ _ _ _ _ _ r h => by simp [crossbarlaw07_TrieCommutes.j0] at h, fun _ _ _ _ _ _ _ _ r h => by simp [crossbarlaw07_TrieCommutes.j1] at h, fun _ _ _ _ _ _ r h => by simp [crossbarlaw07_TrieCommutes.j2] at h⟩
  | k + 1 => by
    obtain ⟨ih0, ih1, ih2⟩ := crossbarlaw07_TrieCommutes.mono_l k
    refine ⟨?_, ?_, ?_⟩
    · intro y0 y1 y2 y3 y4 y5
      unfold crossbarlaw07_TrieCommutes.j0
      repeat' first
      | (with_reducible exact ih0 _ _ _ _ _ _)
      | (with_reducible exact ih1 _ _ _ _ _ _ _ _)
      | (with_reducible exact ih2 _ _ _ _ _ _)
      | (with_reducible exact crossbarlaw07_without.mono _ _ _)
      | (with_reducible exact crossbarref07_SameEntries.mono _ _ _)
      | (with_reducible exact trie_Drop.mono _ _ _)
      | (with_reducible exact trie_Entries.mono _ _)
      | (with_reducible exact trie_Put.mono _ _ _ _)
      | (with_reducible exact LeO.refl _)
      | (with_reducible exact LeO.none _)
      | (with_reducible refine LeO.ite ?_ ?_)
      | (with_reducible refine LeO.bind ?_ (fun _ => ?_))
      | exact ih0 _ _ _ _ _ _
      | exact ih1 _ _ _ _ _ _ _ _
      | exact ih2 _ _ _ _ _ _
      | exact crossbarlaw07_without.mono _ _ _
      | exact crossbarref07_SameEntries.mono _ _ _
      | exact trie_Drop.mono _ _ _
      | exact trie_Entries.mono _ _
      | exact trie_Put.mono _ _ _ _
      | exact LeO.none _
      | refine LeO.ite ?_ ?_
      | refine LeO.bind ?_ (fun _ => ?_)
    · intro y0 y1 y2 y3 y4 y5 y6 y7
      unfold crossbarlaw07_TrieCommutes.j1
      repeat' first
      | (with_reducible exact ih0 _ _ _ _ _ _)
      | (with_reducible exact ih1 _ _ _ _ _ _ _ _)
      | (with_reducible exact ih2 _ _ _ _ _ _)
      | (with_reducible exact crossbarlaw07_without.mono _ _ _)
      | (with_reducible exact crossbarref07_SameEntries.mono _ _ _)
      | (with_reducible exact trie_Drop.mono _ _ _)
      | (with_reducible exact trie_Entries.mono _ _)
      | (with_reducible exact trie_Put.mono _ _ _ _)
      | (with_reducible exact LeO.refl _)
      | (with_reducible exact LeO.none _)
      | (with_reducible refine LeO.ite ?_ ?_)
      | (with_reducible refine LeO.bind ?_ (fun _ => ?_))
      | exact ih0 _ _ _ _ _ _
      | exact ih1 _ _ _ _ _ _ _ _
      | exact ih2 _ _ _ _ _ _
      | exact crossbarlaw07_without.mono _ _ _
      | exact crossbarref07_SameEntries.mono _ _ _
      | exact trie_Drop.mono _ _ _
      | exact trie_Entries.mono _ _
      | exact trie_Put.mono _ _ _ _
      | exact LeO.none _
      | refine LeO.ite ?_ ?_
      | refine LeO.bind ?_ (fun _ => ?_)
    · intro y0 y1 y2 y3 y4 y5
      unfold crossbarlaw07_TrieCommutes.j2
      repeat' first
      | (with_reducible exact ih0 _ _ _ _ _ _)
      | (with_reducible exact ih1 _ _ _ _ _ _ _ _)
      | (with_reducible exact ih2 _ _ _ _ _ _)
      | (with_reducible exact crossbarlaw07_without.mono _ _ _)
      | (with_reducible exact crossbarref07_SameEntries.mono _ _ _)
      | (with_reducible exact trie_Drop.mono _ _ _)
      | (with_reducible exact trie_Entries.mono _ _)
      | (with_reducible exact trie_Put.mono _ _ _ _)
      | (with_reducible exact LeO.refl _)
      | (with_reducible exact LeO.none _)
      | (with_reducible refine LeO.ite ?_ ?_)
      | (with_reducible refine LeO.bind ?_ (fun _ => ?_))
      | exact ih0 _ _ _ _ _ _
      | exact ih1 _ _ _ _ _ _ _ _
      | exact ih2 _ _ _ _ _ _
      | exact crossbarlaw07_without.mono _ _ _
      | exact crossbarref07_SameEntries.mono _ _ _
      | exact trie_Drop.mono _ _ _
      | exact trie_Entries.mono _ _
      | exact trie_Put.mono _ _ _ _
      | exact LeO.none _
      | refine LeO.ite ?_ ?_
      | refine LeO.bind ?_ (fun _ => ?_)
theorem crossbarlaw07_TrieCommutes.mono : ∀ a0 a1 a2 a3 a4 k, LeO (crossbarlaw07_TrieCommutes.f k a0 a1 a2 a3 a4) (crossbarlaw07_TrieCommutes.f (k + 1) a0 a1 a2 a3 a4) := by
  intro a0 a1 a2 a3 a4 k
  obtain ⟨ih0, ih1, ih2⟩ := crossbarlaw07_TrieCommutes.mono_l k
  unfold crossbarlaw07_TrieCommutes.f
  repeat' first
      | (with_reducible exact ih0 _ _ _ _ _ _)
      | (with_reducible exact ih1 _ _ _ _ _ _ _ _)
      | (with_reducible exact ih2 _ _ _ _ _ _)
      | (with_reducible exact crossbarlaw07_without.mono _ _ _)
      | (with_reducible exact crossbarref07_SameEntries.mono _ _ _)
      | (with_reducible exact trie_Drop.mono _ _ _)
      | (with_reducible exact trie_Entries.mono _ _)
      | (with_reducible exact trie_Put.mono _ _ _ _)
      | (with_reducible exact LeO.refl _)
      | (with_reducible exact LeO.none _)
      | (with_reducible refine LeO.ite ?_ ?_)
      | (with_reducible refine LeO.bind ?_ (fun _ => ?_))
      | exact ih0 _ _ _ _ _ _
      | exact ih1 _ _ _ _ _ _ _ _
      | exact ih2 _ _ _ _ _ _
      | exact crossbarlaw07_without.mono _ _ _
      | exact crossbarref07_SameEntries.mono _ _ _
      | exact trie_Drop.mono _ _ _
      | exact trie_Entries.mono _ _
      | exact trie_Put.mono _ _ _ _
      | exact LeO.none _
      | refine LeO.ite ?_ ?_
      | refine LeO.bind ?_ (fun _ => ?_)
noncomputable def crossbarlaw07_TrieCommutes.T14 : Bool × List (List Nat × List Nat) := (true, [([], []), ([0], [0]), ([], []), ([2, 1], [2]), ([1, 3, 3], [1, 3]), ([4, 4], [4]), ([5], [5]), ([6, 5, 5], [5, 6]), ([5], [5]), ([8, 7, 5], [5, 8]), ([5], [5]), ([9, 10, 9, 5], [5, 9, 10]), ([7, 11, 11, 5], [5, 7, 11]), ([5, 12], [5, 12]), ([13, 12, 0, 1, 2, 3, 4, 5, 6, 7, 8, 9, 10, 11, 12, 13], [13])])
noncomputable def crossbarlaw07_TrieCommutes.B14 : List Nat := [0, 1, 0, 7, 15, 31, 63, 127, 63, 511, 63, 2047, 4095, 8191, 16383]
theorem crossbarlaw07_TrieCommutes.tab14 : rtab .any (opsOf Tryd.f10 14) = crossbarlaw07_TrieCommutes.T14 := by kernel_rfl
theorem crossbarlaw07_TrieCommutes.bits14 : waitsOk crossbarlaw07_TrieCommutes.T14.2 crossbarlaw07_TrieCommutes.B14 = true := by kernel_rfl
set_option maxHeartbeats 8000000 in
set_option maxRecDepth 100000 in
theorem crossbarlaw07_TrieCommutes.calls (k : Nat) (A0_0 : Option Addr) (c0_0 : Nat) (l0_0 : List (S71)) (a1 : ByteArray) (a2 : Int) (a3 : ByteArray) (a4 : Int) (r : Bool) (ht : r = true) (w : World) (hr0_0 : Kd.C k71 w A0_0 l0_0.length l0_0) (hc0_0 : l0_0.length ≤ c0_0) (h : crossbarlaw07_TrieCommutes.f k l0_0 a1 a2 a3 a4 = some r) :
    Calls Tryd.prog 10 #[.agg #[.slice A0_0 l0_0.length c0_0], .string a1, .int .i64 a2, .string a3, .int .i64 a4] w fun e w' => e = .returned (.bool r) ∧ Below w.heap.size w w' := by
  have hu24 := Tryd.underlying24
  have HR0_0 := Aside0.mk hr0_0
  have HC0_0 := Aside0.mk hc0_0
  clear hr0_0 hc0_0
  have HB := Aside0.mk (Below.refl w.heap.size w)
  have H : ((crossbarlaw07_sane.f).bind fun t447 => (if t447 = true then (if (l0_0.length : Int) > 400 then (crossbarlaw07_TrieCommutes.j0 k a1 a2 a3 a4 true l0_0) else (if (a1.size : Int) > 40 then (crossbarlaw07_TrieCommutes.j0 k a1 a2 a3 a4 true l0_0) else (if (a3.size : Int) > 40 then (crossbarlaw07_TrieCommutes.j0 k a1 a2 a3 a4 true l0_0) else (crossbarlaw07_TrieCommutes.j0 k a1 a2 a3 a4 (a1.toList == a3.toList) l0_0)))) else (some false))) = some r := h
  clear h
  replace H := Option.bind_eq_some_iff.mp H
  obtain ⟨t447, A60, H⟩ := H
  replace H : (if t447 = true then (if (l0_0.length : Int) > 400 then (crossbarlaw07_TrieCommutes.j0 k a1 a2 a3 a4 true l0_0) else (if (a1.size : Int) > 40 then (crossbarlaw07_TrieCommutes.j0 k a1 a2 a3 a4 true l0_0) else (if (a3.size : Int) > 40 then (crossbarlaw07_TrieCommutes.j0 k a1 a2 a3 a4 true l0_0) else (crossbarlaw07_TrieCommutes.j0 k a1 a2 a3 a4 (a1.toList == a3.toList) l0_0)))) else (some false)) = some r := H
  have A6 := Aside0.mk A60
  clear A60
  by_cases c7 : t447 = true
  · subst c7
    have H1 : (if (l0_0.length : Int) > 400 then (crossbarlaw07_TrieCommutes.j0 k a1 a2 a3 a4 true l0_0) else (if (a1.size : Int) > 40 then (crossbarlaw07_TrieCommutes.j0 k a1 a2 a3 a4 true l0_0) else (if (a3.size : Int) > 40 then (crossbarlaw07_TrieCommutes.j0 k a1 a2 a3 a4 true l0_0) else (crossbarlaw07_TrieCommutes.j0 k a1 a2 a3 a4 (a1.toList == a3.toList) l0_0)))) = some r := by rw [if_pos rfl] at H; exact H
    clear H
    have H := H1
    clear H1
    have HC8 := Aside0.mk H
    clear H
    go_enter Tryd.func10, Tryd.ntmps10
    go_upto_region 3 with (first | ((with_reducible refine gate_dst (N := 5) rfl ?_); (try (refine gate_guard (by rfl) ?_; dsimp only)); refine box_event ?hg (N := 5) ?hd (cs := #[.slice A0_0 l0_0.length c0_0]) (t := 24) ?hr ?_; (case hd => rfl); (case hg => rfl); (case hr => first | (go_simp; done) | (go_simp; rfl)); intro gb446 hg w9 hbox hb; have n0_ := Aside0.mk (below_step (by repeat (first | (with_reducible first | exact HB.out | apply below_alloc | apply pw_below_drewN | apply below_drew1) | exact HB.out)) hb); have n1_ := Aside0.mk (hbox); have n2_ := Aside0.mk ((by rw [hg]; exact (below_size (by repeat (first | (with_reducible first | exact HB.out | apply below_alloc | apply pw_below_drewN | apply below_drew1) | exact HB.out))) : w.heap.size ≤ gb446)); have n3_ := Aside0.mk ((by rw [hg]; exact (below_size (by repeat (first | (with_reducible first | exact HB.out | apply below_alloc | apply pw_below_drewN | apply below_drew1) | exact HB.out))) : w.heap.size ≤ gb446)); clear HB; have HB := n0_; have BK446 := n1_; have GW446 := n2_; have GE446 := n3_; clear n0_ n1_ n2_ n3_; clear hb hbox hg) | ((with_reducible refine gate_callee (f := 15) rfl ?_); refine goesL_ (some 21) rfl rfl Tryd.func15 (by kernel_rfl) rfl #[] rfl (by (try simp only [List.map_toArray, List.map_cons, List.map_nil]); first | done | rfl | (simp only [List.length_drop, List.length_take]; rfl)) ?_; (with_reducible refine (crossbarlaw07_sane.calls  true _ A6.out).mono ?_); rintro e w10 ⟨rfl, hb⟩; refine ⟨_, rfl, ?_⟩; have n0_ := Aside0.mk (blk_below (g := gb446) (o := .cells #[.slice A0_0 l0_0.length c0_0] 24 (0, 0)) (by (with_reducible repeat (first | refine blk_drewN ?_ _ | refine blk_drew ?_ | refine blk_alloc ?_ _)); exact BK446.out) hb); have n1_ := Aside0.mk (below_step (by repeat (first | (with_reducible first | exact HB.out | apply below_alloc | apply pw_below_drewN | apply below_drew1 | refine below_set ?_ GE446.out) | exact HB.out)) hb); clear BK446; clear HB; have BK446 := n0_; have HB := n1_; clear n0_ n1_; (try clear hb); (try clear hb2); (try clear hk); (try clear hi)))
    (try simp only [Act.put, List.setIfInBounds_toArray, List.set_cons_zero, List.set_cons_succ])
    go_cut [41] (fun v41 wc => ∃ (kq : Nat) (x41_7 : Bool), v41 = .bool x41_7 ∧ Aside0 (crossbarlaw07_TrieCommutes.j0 kq a1 a2 a3 a4 x41_7 l0_0 = some r) ∧ Aside0 (kq ≤ k) ∧ Aside0 (wc.heap[gb446]? = some (.cells #[(.slice A0_0 l0_0.length c0_0)] 24 (0, 0))) ∧ Aside0 (Below w.heap.size w wc))
    case first =>
      have H := HC8.out
      clear HC8
      by_cases c11 : (l0_0.length : Int) > 400
      · rw [if_pos c11] at H
        have c11b0 : decide (400 < (l0_0.length : Int)) = true := decide_eq_true c11
        have c11b1 : decide (400 < l0_0.length) = true := decide_eq_true (by omega)
        clear c11
        (first | rw [c11b0] | (simp only [i64_w, i32_w]; rw [c11b0]) | skip)
        have H' := Aside0.mk H
        clear H
        have hcz12_0 : w10.cell? ⟨gb446, 0, none⟩ = some (.slice A0_0 l0_0.length c0_0) := (blk_cell BK446.out 0).trans rfl
        have hfz12_0 := blk_frozen BK446.out 0
        go_wp2
        go_meet
        case rel => exact ⟨_, (true), (by first | rfl | (simp; done) | (simp [*]; done)), H', ⟨by first | omega | exact Nat.le_refl _⟩, ⟨by (with_reducible repeat (first | refine blk_drewN ?_ _ | refine blk_drew ?_ | refine blk_alloc ?_ _)); exact BK446.out⟩, ⟨by repeat (first | (with_reducible first | exact HB.out | apply below_alloc | apply pw_below_drewN | apply below_drew1 | refine below_set ?_ GE446.out) | exact HB.out)⟩⟩
      · rw [if_neg c11] at H
        have c11b0 : decide (400 < (l0_0.length : Int)) = false := decide_eq_false c11
        have c11b1 : decide (400 < l0_0.length) = false := decide_eq_false (by omega)
        clear c11
        (first | rw [c11b0] | (simp only [i64_w, i32_w]; rw [c11b0]) | skip)
        by_cases c13 : (a1.size : Int) > 40
        · rw [if_pos c13] at H
          have c13b0 : decide (40 < (a1.size : Int)) = true := decide_eq_true c13
          have c13b1 : decide (40 < a1.size) = true := decide_eq_true (by omega)
          clear c13
          have H' := Aside0.mk H
          clear H
          have hcz14_0 : w10.cell? ⟨gb446, 0, none⟩ = some (.slice A0_0 l0_0.length c0_0) := (blk_cell BK446.out 0).trans rfl
          have hfz14_0 := blk_frozen BK446.out 0
          go_wp2
          go_meet
          case rel => exact ⟨_, (true), (by first | rfl | (simp; done) | (simp [*]; done)), H', ⟨by first | omega | exact Nat.le_refl _⟩, ⟨by (with_reducible repeat (first | refine blk_drewN ?_ _ | refine blk_drew ?_ | refine blk_alloc ?_ _)); exact BK446.out⟩, ⟨by repeat (first | (with_reducible first | exact HB.out | apply below_alloc | apply pw_below_drewN | apply below_drew1 | refine below_set ?_ GE446.out) | exact HB.out)⟩⟩
        · rw [if_neg c13] at H
          have c13b0 : decide (40 < (a1.size : Int)) = false := decide_eq_false c13
          have c13b1 : decide (40 < a1.size) = false := decide_eq_false (by omega)
          clear c13
          by_cases c15 : (a3.size : Int) > 40
          · rw [if_pos c15] at H
            have c15b0 : decide (40 < (a3.size : Int)) = true := decide_eq_true c15
            have c15b1 : decide (40 < a3.size) = true := decide_eq_true (by omega)
            clear c15
            have H' := Aside0.mk H
            clear H
            have hcz16_0 : w10.cell? ⟨gb446, 0, none⟩ = some (.slice A0_0 l0_0.length c0_0) := (blk_cell BK446.out 0).trans rfl
            have hfz16_0 := blk_frozen BK446.out 0
            go_wp2
            go_meet
            case rel => exact ⟨_, (true), (by first | rfl | (simp; done) | (simp [*]; done)), H', ⟨by first | omega | exact Nat.le_refl _⟩, ⟨by (with_reducible repeat (first | refine blk_drewN ?_ _ | refine blk_drew ?_ | refine blk_alloc ?_ _)); exact BK446.out⟩, ⟨by repeat (first | (with_reducible first | exact HB.out | apply below_alloc | apply pw_below_drewN | apply below_drew1 | refine below_set ?_ GE446.out) | exact HB.out)⟩⟩
          · rw [if_neg c15] at H
            have c15b0 : decide (40 < (a3.size : Int)) = false := decide_eq_false c15
            have c15b1 : decide (40 < a3.size) = false := decide_eq_false (by omega)
            clear c15
            have H' := Aside0.mk H
            clear H
            have hcz17_0 : w10.cell? ⟨gb446, 0, none⟩ = some (.slice A0_0 l0_0.length c0_0) := (blk_cell BK446.out 0).trans rfl
            have hfz17_0 := blk_frozen BK446.out 0
            go_wp2
            go_meet
            case rel => exact ⟨_, ((a1.toList == a3.toList)), (by first | rfl | (simp; done) | (simp [*]; done)), H', ⟨by first | omega | exact Nat.le_refl _⟩, ⟨by (with_reducible repeat (first | refine blk_drewN ?_ _ | refine blk_drew ?_ | refine blk_alloc ?_ _)); exact BK446.out⟩, ⟨by repeat (first | (with_reducible first | exact HB.out | apply below_alloc | apply pw_below_drewN | apply below_drew1 | refine below_set ?_ GE446.out) | exact HB.out)⟩⟩
    case rest =>
      clear HC8
      try clear c1
      try clear p2
      try clear c7
      try clear c10
      try clear c11
      try clear c11b0
      try clear c11b1
      try clear c13
      try clear c13b0
      try clear c13b1
      try clear c15
      try clear c15b0
      try clear c15b1
      try clear hcz12_0
      try clear hcz14_0
      try clear hcz16_0
      try clear hcz17_0
      try clear hfz12_0
      try clear hfz14_0
      try clear hfz16_0
      try clear hfz17_0
      obtain ⟨kq, x41_7, rfl, HA, HJ7, BK446, HB⟩ := hcut
      cases kq with
      | zero => exact absurd HA.out (by simp [crossbarlaw07_TrieCommutes.j0])
      | succ kj7 =>
        have H := HA.out
        clear HA
        simp only [crossbarlaw07_TrieCommutes.j0] at H
        by_cases c18 : x41_7 = true
        · subst c18
          have H1 : (some true) = some r := by rw [if_pos rfl] at H; exact H
          clear H
          have H := H1
          clear H1
          obtain rfl := Option.some.inj H
          go_wp2
          go_ret
          exact ⟨by first | rfl | (simp [errW_none, errW_some] <;> rfl) | (simp [*, errW_none, errW_some] <;> rfl), by repeat (first | (with_reducible first | exact HB.out | apply below_alloc | apply pw_below_drewN | apply below_drew1 | refine below_set ?_ GE446.out) | exact HB.out)⟩
        · replace c18 := Bool.eq_false_iff.mpr c18
          subst c18
          have H1 : ((trie_Put.f kj7 l0_0 a1 a2).bind fun bt448 => ((trie_Put.f kj7 l0_0 a3 a4).bind fun bt453 => (if bt448.2 = 0 then (crossbarlaw07_TrieCommutes.j1 kj7 a1 a2 a3 a4 (bt453.2 != 0) l0_0 bt448.1 bt453.1) else (crossbarlaw07_TrieCommutes.j1 kj7 a1 a2 a3 a4 true l0_0 bt448.1 bt453.1)))) = some r := by rw [if_neg (show ¬ (false = true) by decide)] at H; exact H
          clear H
          have H := H1
          clear H1
          replace H := Option.bind_eq_some_iff.mp H
          obtain ⟨⟨t448, t451⟩, A190, H⟩ := H
          replace H : ((trie_Put.f kj7 l0_0 a3 a4).bind fun bt453 => (if t451 = 0 then (crossbarlaw07_TrieCommutes.j1 kj7 a1 a2 a3 a4 (bt453.2 != 0) l0_0 t448 bt453.1) else (crossbarlaw07_TrieCommutes.j1 kj7 a1 a2 a3 a4 true l0_0 t448 bt453.1))) = some r := H
          have A19 := Aside0.mk A190
          clear A190
          replace H := Option.bind_eq_some_iff.mp H
          obtain ⟨⟨t453, t456⟩, A200, H⟩ := H
          replace H : (if t451 = 0 then (crossbarlaw07_TrieCommutes.j1 kj7 a1 a2 a3 a4 (t456 != 0) l0_0 t448 t453) else (crossbarlaw07_TrieCommutes.j1 kj7 a1 a2 a3 a4 true l0_0 t448 t453)) = some r := H
          have A20 := Aside0.mk A200
          clear A200
          have HC21 := Aside0.mk H
          clear H
          have hcz22_0 : wc.cell? ⟨gb446, 0, none⟩ = some (.slice A0_0 l0_0.length c0_0) := (blk_cell BK446.out 0).trans rfl
          have hfz22_0 := blk_frozen BK446.out 0
          go_upto_region 7 with (first | ((with_reducible refine gate_callee (f := 26) rfl ?_); refine goesL_ (some 46) rfl rfl Tryd.func26 (by kernel_rfl) rfl #[.agg #[.slice A0_0 l0_0.length c0_0], .string a1, .int .i64 a2] rfl (by (try simp only [List.map_toArray, List.map_cons, List.map_nil]); first | done | rfl | (simp only [List.length_drop, List.length_take]; rfl)) ?_; (with_reducible refine (trie_Put.calls kj7 _ _ l0_0 a1 a2 t448 t451 _ ?side1 ?side2 A19.out).mono ?_); (case side1 => repeat (first | exact (Kd.C_below HR0_0.out HB.out) | (with_reducible refine Kd.C_alloc ?_ _) | (with_reducible refine Kd.C_drewN ?_ _) | (with_reducible refine Kd.C_drew ?_))); (case side2 => exact HC0_0.out); rintro e w23 ⟨v449, rfl, ho0, hb⟩; refine ⟨_, rfl, ?_⟩; have n0_ := Aside0.mk (Kd.R_lower ho0 (below_size (by repeat (first | (with_reducible first | exact HB.out | apply below_alloc | apply pw_below_drewN | apply below_drew1 | refine below_set ?_ GE446.out) | exact HB.out)))); have n1_ := Aside0.mk (blk_below (g := gb446) (o := .cells #[.slice A0_0 l0_0.length c0_0] 24 (0, 0)) (by (with_reducible repeat (first | refine blk_drewN ?_ _ | refine blk_drew ?_ | refine blk_alloc ?_ _)); exact BK446.out) hb); have n2_ := Aside0.mk (below_step (by repeat (first | (with_reducible first | exact HB.out | apply below_alloc | apply pw_below_drewN | apply below_drew1 | refine below_set ?_ GE446.out) | exact HB.out)) hb); clear BK446; clear HB; have HO450 := n0_; have BK446 := n1_; have HB := n2_; clear n0_ n1_ n2_; (try clear hb); (try clear hb2); (try clear hk); (try clear hi); (try clear ho0)) | ((with_reducible refine gate_dst (N := 11) rfl ?_); (try (refine gate_guard (by rfl) ?_; dsimp only)); refine box_event ?hg (N := 11) ?hd (cs := #[.slice none 0 0]) (t := 24) ?hr ?_; (case hd => rfl); (case hg => rfl); (case hr => first | (go_simp; done) | (go_simp; rfl)); intro gb452 hg w24 hbox hb; have n0_ := Aside0.mk (Kd.R_below (by (with_reducible repeat (first | apply Kd.R_alloc | apply Kd.R_drewN | apply Kd.R_drew)); exact HO450.out) hb); have n1_ := Aside0.mk (blk_below (g := gb446) (o := .cells #[.slice A0_0 l0_0.length c0_0] 24 (0, 0)) (by (with_reducible repeat (first | refine blk_drewN ?_ _ | refine blk_drew ?_ | refine blk_alloc ?_ _)); exact BK446.out) hb); have n2_ := Aside0.mk (below_step (by repeat (first | (with_reducible first | exact HB.out | apply below_alloc | apply pw_below_drewN | apply below_drew1 | refine below_set ?_ GE446.out) | exact HB.out)) hb); have n3_ := Aside0.mk (hbox); have n4_ := Aside0.mk ((by rw [hg]; exact (below_size (by repeat (first | (with_reducible first | exact HB.out | apply below_alloc | apply pw_below_drewN | apply below_drew1 | refine below_set ?_ GE446.out) | exact HB.out))) : w.heap.size ≤ gb452)); have n5_ := Aside0.mk ((by rw [hg]; exact (below_size (by repeat (first | (with_reducible first | exact HB.out | apply below_alloc | apply pw_below_drewN | apply below_drew1 | refine below_set ?_ GE446.out) | exact HB.out))) : w.heap.size ≤ gb452)); have n6_ := Aside0.mk ((by rw [hg]; exact Nat.ne_of_lt (blk_lt (g := gb446) (o := .cells #[.slice A0_0 l0_0.length c0_0] 24 (0, 0)) (by (with_reducible repeat (first | refine blk_drewN ?_ _ | refine blk_drew ?_ | refine blk_alloc ?_ _)); exact BK446.out)) : gb446 ≠ gb452)); have n7_ := Aside0.mk ((by rw [hg]; exact Nat.ne_of_gt (blk_lt (g := gb446) (o := .cells #[.slice A0_0 l0_0.length c0_0] 24 (0, 0)) (by (with_reducible repeat (first | refine blk_drewN ?_ _ | refine blk_drew ?_ | refine blk_alloc ?_ _)); exact BK446.out)) : gb452 ≠ gb446)); clear HO450; clear BK446; clear HB; have HO450 := n0_; have BK446 := n1_; have HB := n2_; have BK452 := n3_; have GW452 := n4_; have GE452 := n5_; have NB446_452 := n6_; have NB452_446 := n7_; clear n0_ n1_ n2_ n3_ n4_ n5_ n6_ n7_; clear hb hbox hg; obtain ⟨Ao25, co25, eo25⟩ := Kd.R_slice HO450.out; subst eo25; have hnb26 := NB452_446.out; have hnc26 := NB446_452.out; have hcz27_0 : w24.cell? ⟨gb452, 0, none⟩ = some (.slice none 0 0) := (blk_cell BK452.out 0).trans rfl; have hfz27_0 := blk_frozen BK452.out 0; have hcz28_0 : w24.cell? ⟨gb446, 0, none⟩ = some (.slice A0_0 l0_0.length c0_0) := (blk_cell BK446.out 0).trans rfl; have hfz28_0 := blk_frozen BK446.out 0) | ((with_reducible refine gate_callee (f := 26) rfl ?_); refine goesL_ (some 53) rfl rfl Tryd.func26 (by kernel_rfl) rfl #[.agg #[.slice A0_0 l0_0.length c0_0], .string a3, .int .i64 a4] rfl (by (try simp only [List.map_toArray, List.map_cons, List.map_nil]); first | done | rfl | (simp only [List.length_drop, List.length_take]; rfl)) ?_; (with_reducible refine (trie_Put.calls kj7 _ _ l0_0 a3 a4 t453 t456 _ ?side1 ?side2 A20.out).mono ?_); (case side1 => exact Kd.C_below HR0_0.out (by repeat (first | (with_reducible first | exact HB.out | apply below_alloc | apply pw_below_drewN | apply below_drew1 | refine below_set ?_ GE446.out | refine below_set ?_ GE452.out) | exact HB.out))); (case side2 => exact HC0_0.out); rintro e w29 ⟨v454, rfl, ho0, hb⟩; refine ⟨_, rfl, ?_⟩; have n0_ := Aside0.mk (Kd.R_elder' (by (with_reducible repeat (first | apply Kd.R_alloc | apply Kd.R_drewN | apply Kd.R_drew)); exact (Kd.R_mono (Kd.R_far (p := ⟨gb452, 0, none⟩) (Kd.R_types HO450.out BK452.out (by decide)) (fun _ hk => hk.2) (.slice Ao25 t448.length co25)) (fun _ h_ => h_.1))) (Kd.R_base ho0) hb); have n1_ := Aside0.mk (Kd.R_lower (Kd.R_new' ho0 (Kd.R_lt (by (with_reducible repeat (first | apply Kd.R_alloc | apply Kd.R_drewN | apply Kd.R_drew)); exact (Kd.R_mono (Kd.R_far (p := ⟨gb452, 0, none⟩) (Kd.R_types HO450.out BK452.out (by decide)) (fun _ hk => hk.2) (.slice Ao25 t448.length co25)) (fun _ h_ => h_.1))))) (below_size (by repeat (first | (with_reducible first | exact HB.out | apply below_alloc | apply pw_below_drewN | apply below_drew1 | refine below_set ?_ GE446.out | refine below_set ?_ GE452.out) | exact HB.out)))); have n2_ := Aside0.mk (blk_below (g := gb446) (o := .cells #[.slice A0_0 l0_0.length c0_0] 24 (0, 0)) (by (with_reducible repeat (first | refine blk_drewN ?_ _ | refine blk_drew ?_ | refine blk_alloc ?_ _)); refine blk_far ?_ NB446_452.out _; (with_reducible repeat (first | refine blk_drewN ?_ _ | refine blk_drew ?_ | refine blk_alloc ?_ _)); exact BK446.out) hb); have n3_ := Aside0.mk (blk_below (g := gb452) (o := .cells #[.slice Ao25 t448.length co25] 24 (0, 0)) (by (with_reducible repeat (first | refine blk_drewN ?_ _ | refine blk_drew ?_ | refine blk_alloc ?_ _)); refine blk_put (cs := #[.slice none 0 0]) ?_ 0 _ rfl; (with_reducible repeat (first | refine blk_drewN ?_ _ | refine blk_drew ?_ | refine blk_alloc ?_ _)); exact BK452.out) hb); have n4_ := Aside0.mk (below_step (by repeat (first | (with_reducible first | exact HB.out | apply below_alloc | apply pw_below_drewN | apply below_drew1 | refine below_set ?_ GE446.out | refine below_set ?_ GE452.out) | exact HB.out)) hb); clear HO450; clear BK446; clear BK452; clear HB; have HO450 := n0_; have HO455 := n1_; have BK446 := n2_; have BK452 := n3_; have HB := n4_; clear n0_ n1_ n2_ n3_ n4_; (try clear hb); (try clear hb2); (try clear hk); (try clear hi); (try clear ho0)) | ((with_reducible refine gate_dst (N := 13) rfl ?_); (try (refine gate_guard (by rfl) ?_; dsimp only)); refine box_event ?hg (N := 13) ?hd (cs := #[.slice none 0 0]) (t := 24) ?hr ?_; (case hd => rfl); (case hg => rfl); (case hr => first | (go_simp; done) | (go_simp; rfl)); intro gb457 hg w30 hbox hb; have n0_ := Aside0.mk (Kd.R_below (by (with_reducible repeat (first | apply Kd.R_alloc | apply Kd.R_drewN | apply Kd.R_drew)); exact HO450.out) hb); have n1_ := Aside0.mk (Kd.R_below (by (with_reducible repeat (first | apply Kd.R_alloc | apply Kd.R_drewN | apply Kd.R_drew)); exact HO455.out) hb); have n2_ := Aside0.mk (blk_below (g := gb446) (o := .cells #[.slice A0_0 l0_0.length c0_0] 24 (0, 0)) (by (with_reducible repeat (first | refine blk_drewN ?_ _ | refine blk_drew ?_ | refine blk_alloc ?_ _)); exact BK446.out) hb); have n3_ := Aside0.mk (blk_below (g := gb452) (o := .cells #[.slice Ao25 t448.length co25] 24 (0, 0)) (by (with_reducible repeat (first | refine blk_drewN ?_ _ | refine blk_drew ?_ | refine blk_alloc ?_ _)); exact BK452.out) hb); have n4_ := Aside0.mk (below_step (by repeat (first | (with_reducible first | exact HB.out | apply below_alloc | apply pw_below_drewN | apply below_drew1 | refine below_set ?_ GE446.out | refine below_set ?_ GE452.out) | exact HB.out)) hb); have n5_ := Aside0.mk (hbox); have n6_ := Aside0.mk ((by rw [hg]; exact (below_size (by repeat (first | (with_reducible first | exact HB.out | apply below_alloc | apply pw_below_drewN | apply below_drew1 | refine below_set ?_ GE446.out | refine below_set ?_ GE452.out) | exact HB.out))) : w.heap.size ≤ gb457)); have n7_ := Aside0.mk ((by rw [hg]; exact (below_size (by repeat (first | (with_reducible first | exact HB.out | apply below_alloc | apply pw_below_drewN | apply below_drew1 | refine below_set ?_ GE446.out | refine below_set ?_ GE452.out) | exact HB.out))) : w.heap.size ≤ gb457)); have n8_ := Aside0.mk ((by rw [hg]; exact Nat.ne_of_lt (blk_lt (g := gb446) (o := .cells #[.slice A0_0 l0_0.length c0_0] 24 (0, 0)) (by (with_reducible repeat (first | refine blk_drewN ?_ _ | refine blk_drew ?_ | refine blk_alloc ?_ _)); exact BK446.out)) : gb446 ≠ gb457)); have n9_ := Aside0.mk ((by rw [hg]; exact Nat.ne_of_gt (blk_lt (g := gb446) (o := .cells #[.slice A0_0 l0_0.length c0_0] 24 (0, 0)) (by (with_reducible repeat (first | refine blk_drewN ?_ _ | refine blk_drew ?_ | refine blk_alloc ?_ _)); exact BK446.out)) : gb457 ≠ gb446)); have n10_ := Aside0.mk ((by rw [hg]; exact Nat.ne_of_lt (blk_lt (g := gb452) (o := .cells #[.slice Ao25 t448.length co25] 24 (0, 0)) (by (with_reducible repeat (first | refine blk_drewN ?_ _ | refine blk_drew ?_ | refine blk_alloc ?_ _)); exact BK452.out)) : gb452 ≠ gb457)); have n11_ := Aside0.mk ((by rw [hg]; exact Nat.ne_of_gt (blk_lt (g := gb452) (o := .cells #[.slice Ao25 t448.length co25] 24 (0, 0)) (by (with_reducible repeat (first | refine blk_drewN ?_ _ | refine blk_drew ?_ | refine blk_alloc ?_ _)); exact BK452.out)) : gb457 ≠ gb452)); clear HO450; clear HO455; clear BK446; clear BK452; clear HB; have HO450 := n0_; have HO455 := n1_; have BK446 := n2_; have BK452 := n3_; have HB := n4_; have BK457 := n5_; have GW457 := n6_; have GE457 := n7_; have NB446_457 := n8_; have NB457_446 := n9_; have NB452_457 := n10_; have NB457_452 := n11_; clear n0_ n1_ n2_ n3_ n4_ n5_ n6_ n7_ n8_ n9_ n10_ n11_; clear hb hbox hg; obtain ⟨Ao31, co31, eo31⟩ := Kd.R_slice HO455.out; subst eo31; have hnb32 := NB457_446.out; have hnc32 := NB446_457.out; have hnb33 := NB457_452.out; have hnc33 := NB452_457.out; have hcz34_0 : w30.cell? ⟨gb457, 0, none⟩ = some (.slice none 0 0) := (blk_cell BK457.out 0).trans rfl; have hfz34_0 := blk_frozen BK457.out 0))
          (try simp only [Act.put, List.setIfInBounds_toArray, List.set_cons_zero, List.set_cons_succ])
          go_cut [61] (fun v61 wc => ∃ (kq : Nat) (x61_20 : Bool), v61 = .bool x61_20 ∧ Aside0 (crossbarlaw07_TrieCommutes.j1 kq a1 a2 a3 a4 x61_20 l0_0 t448 t453 = some r) ∧ Aside0 (kq ≤ kj7) ∧ Aside0 (Kd.R k71 71 wc w.heap.size (fun k_ => some k_ ≠ ((.slice Ao31 t453.length co31) : Value).ownBlock) (.slice Ao25 t448.length co25) t448) ∧ Aside0 (Kd.R k71 71 wc w.heap.size (fun k_ => some k_ ≠ ((.slice Ao25 t448.length co25) : Value).ownBlock) (.slice Ao31 t453.length co31) t453) ∧ Aside0 (wc.heap[gb446]? = some (.cells #[(.slice A0_0 l0_0.length c0_0)] 24 (0, 0))) ∧ Aside0 (wc.heap[gb452]? = some (.cells #[(.slice Ao25 t448.length co25)] 24 (0, 0))) ∧ Aside0 (wc.heap[gb457]? = some (.cells #[(.slice Ao31 t453.length co31)] 24 (0, 0))) ∧ Aside0 (Below w.heap.size w wc))
          case first =>
            have H := HC21.out
            clear HC21
            by_cases c35 : t451 = 0
            · rw [if_pos c35] at H
              have c35b0 : (t451 == 0) = true := beq_iff_eq.mpr c35
              have c35b1 : (t451 != 0) = false := bne_eq_false_iff_eq.mpr c35
              clear c35
              (first | rw [c35b0] | (simp only [i64_w, i32_w]; rw [c35b0]) | skip)
              have H' := Aside0.mk H
              clear H
              go_wp2
              go_meet
              case rel => exact ⟨_, ((t456 != 0)), (by first | rfl | (simp; done) | (simp [*]; done)), H', ⟨by have := HJ7.out; first | omega | exact Nat.le_refl _⟩, ⟨by (with_reducible repeat (first | apply Kd.R_alloc | apply Kd.R_drewN | apply Kd.R_drew)); exact Kd.R_mono (Kd.R_far (p := ⟨gb457, 0, none⟩) (Kd.R_types HO450.out BK457.out (by decide)) (fun _ hk => hk.2) (.slice Ao31 t453.length co31)) (fun _ hk => hk.1.2)⟩, ⟨by (with_reducible repeat (first | apply Kd.R_alloc | apply Kd.R_drewN | apply Kd.R_drew)); exact Kd.R_mono (Kd.R_far (p := ⟨gb457, 0, none⟩) (Kd.R_types HO455.out BK457.out (by decide)) (fun _ hk => hk.2) (.slice Ao31 t453.length co31)) (fun _ hk => hk.1.2)⟩, ⟨by (with_reducible repeat (first | refine blk_drewN ?_ _ | refine blk_drew ?_ | refine blk_alloc ?_ _)); refine blk_far ?_ NB446_457.out _; (with_reducible repeat (first | refine blk_drewN ?_ _ | refine blk_drew ?_ | refine blk_alloc ?_ _)); exact BK446.out⟩, ⟨by (with_reducible repeat (first | refine blk_drewN ?_ _ | refine blk_drew ?_ | refine blk_alloc ?_ _)); refine blk_far ?_ NB452_457.out _; (with_reducible repeat (first | refine blk_drewN ?_ _ | refine blk_drew ?_ | refine blk_alloc ?_ _)); exact BK452.out⟩, ⟨by (with_reducible repeat (first | refine blk_drewN ?_ _ | refine blk_drew ?_ | refine blk_alloc ?_ _)); refine blk_put (cs := #[.slice none 0 0]) ?_ 0 _ rfl; (with_reducible repeat (first | refine blk_drewN ?_ _ | refine blk_drew ?_ | refine blk_alloc ?_ _)); exact BK457.out⟩, ⟨by repeat (first | (with_reducible first | exact HB.out | apply below_alloc | apply pw_below_drewN | apply below_drew1 | refine below_set ?_ GE446.out | refine below_set ?_ GE452.out | refine below_set ?_ GE457.out) | exact HB.out)⟩⟩
            · rw [if_neg c35] at H
              have c35b0 : (t451 == 0) = false := beq_eq_false_iff_ne.mpr c35
              have c35b1 : (t451 != 0) = true := bne_iff_ne.mpr c35
              (first | rw [c35b0] | (simp only [i64_w, i32_w]; rw [c35b0]) | skip)
              have H' := Aside0.mk H
              clear H
              go_wp2
              go_meet
              case rel => exact ⟨_, (true), (by first | rfl | (simp; done) | (simp [*]; done)), H', ⟨by have := HJ7.out; first | omega | exact Nat.le_refl _⟩, ⟨by (with_reducible repeat (first | apply Kd.R_alloc | apply Kd.R_drewN | apply Kd.R_drew)); exact Kd.R_mono (Kd.R_far (p := ⟨gb457, 0, none⟩) (Kd.R_types HO450.out BK457.out (by decide)) (fun _ hk => hk.2) (.slice Ao31 t453.length co31)) (fun _ hk => hk.1.2)⟩, ⟨by (with_reducible repeat (first | apply Kd.R_alloc | apply Kd.R_drewN | apply Kd.R_drew)); exact Kd.R_mono (Kd.R_far (p := ⟨gb457, 0, none⟩) (Kd.R_types HO455.out BK457.out (by decide)) (fun _ hk => hk.2) (.slice Ao31 t453.length co31)) (fun _ hk => hk.1.2)⟩, ⟨by (with_reducible repeat (first | refine blk_drewN ?_ _ | refine blk_drew ?_ | refine blk_alloc ?_ _)); refine blk_far ?_ NB446_457.out _; (with_reducible repeat (first | refine blk_drewN ?_ _ | refine blk_drew ?_ | refine blk_alloc ?_ _)); exact BK446.out⟩, ⟨by (with_reducible repeat (first | refine blk_drewN ?_ _ | refine blk_drew ?_ | refine blk_alloc ?_ _)); refine blk_far ?_ NB452_457.out _; (with_reducible repeat (first | refine blk_drewN ?_ _ | refine blk_drew ?_ | refine blk_alloc ?_ _)); exact BK452.out⟩, ⟨by (with_reducible repeat (first | refine blk_drewN ?_ _ | refine blk_drew ?_ | refine blk_alloc ?_ _)); refine blk_put (cs := #[.slice none 0 0]) ?_ 0 _ rfl; (with_reducible repeat (first | refine blk_drewN ?_ _ | refine blk_drew ?_ | refine blk_alloc ?_ _)); exact BK457.out⟩, ⟨by repeat (first | (with_reducible first | exact HB.out | apply below_alloc | apply pw_below_drewN | apply below_drew1 | refine below_set ?_ GE446.out | refine below_set ?_ GE452.out | refine below_set ?_ GE457.out) | exact HB.out)⟩⟩
          case rest =>
            clear HC21
            try clear c1
            try clear c2
            try clear p2
            try clear c3
            try clear c7
            try clear c10
            try clear c11
            try clear c11b0
            try clear c11b1
            try clear c13
            try clear c13b0
            try clear c13b1
            try clear c15
            try clear c15b0
            try clear c15b1
            try clear c18
            try clear c26
            try clear c32
            try clear c33
            try clear c35
            try clear c35b0
            try clear c35b1
            try clear hcz12_0
            try clear hcz14_0
            try clear hcz16_0
            try clear hcz17_0
            try clear hcz22_0
            try clear hcz27_0
            try clear hcz28_0
            try clear hcz34_0
            try clear hfz12_0
            try clear hfz14_0
            try clear hfz16_0
            try clear hfz17_0
            try clear hfz22_0
            try clear hfz27_0
            try clear hfz28_0
            try clear hfz34_0
            try clear p2
            obtain ⟨kq, x61_20, rfl, HA, HJ20, HO_453000, HO_458000, BK446, BK452, BK457, HB⟩ := hcut
            cases kq with
            | zero => exact absurd HA.out (by simp [crossbarlaw07_TrieCommutes.j1])
            | succ kj20 =>
              have H := HA.out
              clear HA
              simp only [crossbarlaw07_TrieCommutes.j1] at H
              by_cases c36 : x61_20 = true
              · subst c36
                have H1 : (some true) = some r := by rw [if_pos rfl] at H; exact H
                clear H
                have H := H1
                clear H1
                obtain rfl := Option.some.inj H
                go_wp2
                go_ret
                exact ⟨by first | rfl | (simp [errW_none, errW_some] <;> rfl) | (simp [*, errW_none, errW_some] <;> rfl), by repeat (first | (with_reducible first | exact HB.out | apply below_alloc | apply pw_below_drewN | apply below_drew1 | refine below_set ?_ GE446.out | refine below_set ?_ GE452.out | refine below_set ?_ GE457.out) | exact HB.out)⟩
              · replace c36 := Bool.eq_false_iff.mpr c36
                subst c36
                have H1 : ((trie_Put.f kj20 t448 a3 a4).bind fun bt458 => ((trie_Put.f kj20 t453 a1 a2).bind fun bt463 => ((trie_Drop.f kj20 t448 a1).bind fun bt468 => (if bt458.2 = bt463.2 then (if bt468.2 = 0 then (if bt458.2 = 0 then (crossbarlaw07_TrieCommutes.j2 kj20 a1 false l0_0 bt458.1 bt463.1 bt468.1) else (crossbarlaw07_TrieCommutes.j2 kj20 a1 (bt458.2 != 2) l0_0 bt458.1 bt463.1 bt468.1)) else (crossbarlaw07_TrieCommutes.j2 kj20 a1 true l0_0 bt458.1 bt463.1 bt468.1)) else (crossbarlaw07_TrieCommutes.j2 kj20 a1 true l0_0 bt458.1 bt463.1 bt468.1))))) = some r := by rw [if_neg (show ¬ (false = true) by decide)] at H; exact H
                clear H
                have H := H1
                clear H1
                replace H := Option.bind_eq_some_iff.mp H
                obtain ⟨⟨t458, t461⟩, A370, H⟩ := H
                replace H : ((trie_Put.f kj20 t453 a1 a2).bind fun bt463 => ((trie_Drop.f kj20 t448 a1).bind fun bt468 => (if t461 = bt463.2 then (if bt468.2 = 0 then (if t461 = 0 then (crossbarlaw07_TrieCommutes.j2 kj20 a1 false l0_0 t458 bt463.1 bt468.1) else (crossbarlaw07_TrieCommutes.j2 kj20 a1 (t461 != 2) l0_0 t458 bt463.1 bt468.1)) else (crossbarlaw07_TrieCommutes.j2 kj20 a1 true l0_0 t458 bt463.1 bt468.1)) else (crossbarlaw07_TrieCommutes.j2 kj20 a1 true l0_0 t458 bt463.1 bt468.1)))) = some r := H
                have A37 := Aside0.mk A370
                clear A370
                replace H := Option.bind_eq_some_iff.mp H
                obtain ⟨⟨t463, t466⟩, A380, H⟩ := H
                replace H : ((trie_Drop.f kj20 t448 a1).bind fun bt468 => (if t461 = t466 then (if bt468.2 = 0 then (if t461 = 0 then (crossbarlaw07_TrieCommutes.j2 kj20 a1 false l0_0 t458 t463 bt468.1) else (crossbarlaw07_TrieCommutes.j2 kj20 a1 (t461 != 2) l0_0 t458 t463 bt468.1)) else (crossbarlaw07_TrieCommutes.j2 kj20 a1 true l0_0 t458 t463 bt468.1)) else (crossbarlaw07_TrieCommutes.j2 kj20 a1 true l0_0 t458 t463 bt468.1))) = some r := H
                have A38 := Aside0.mk A380
                clear A380
                replace H := Option.bind_eq_some_iff.mp H
                obtain ⟨⟨t468, t471⟩, A390, H⟩ := H
                replace H : (if t461 = t466 then (if t471 = 0 then (if t461 = 0 then (crossbarlaw07_TrieCommutes.j2 kj20 a1 false l0_0 t458 t463 t468) else (crossbarlaw07_TrieCommutes.j2 kj20 a1 (t461 != 2) l0_0 t458 t463 t468)) else (crossbarlaw07_TrieCommutes.j2 kj20 a1 true l0_0 t458 t463 t468)) else (crossbarlaw07_TrieCommutes.j2 kj20 a1 true l0_0 t458 t463 t468)) = some r := H
                have A39 := Aside0.mk A390
                clear A390
                have HC40 := Aside0.mk H
                clear H
                have hnb41 := NB452_446.out
                have hnc41 := NB446_452.out
                have hnb42 := NB452_457.out
                have hnc42 := NB457_452.out
                have hcz43_0 : wc.cell? ⟨gb452, 0, none⟩ = some (.slice Ao25 t448.length co25) := (blk_cell BK452.out 0).trans rfl
                have hfz43_0 := blk_frozen BK452.out 0
                go_upto_region 12 with (first | ((with_reducible refine gate_callee (f := 26) rfl ?_); refine goesL_ (some 66) rfl rfl Tryd.func26 (by kernel_rfl) rfl #[.agg #[.slice Ao25 t448.length co25], .string a3, .int .i64 a4] rfl (by (try simp only [List.map_toArray, List.map_cons, List.map_nil]); first | done | rfl | (simp only [List.length_drop, List.length_take]; rfl)) ?_; (with_reducible refine (trie_Put.calls kj20 _ _ t448 a3 a4 t458 t461 _ ?side1 ?side2 A37.out).mono ?_); (case side1 => repeat (first | exact (Kd.R_reads' HO_453000.out).2.2 | (with_reducible refine Kd.C_alloc ?_ _) | (with_reducible refine Kd.C_drewN ?_ _) | (with_reducible refine Kd.C_drew ?_))); (case side2 => exact (Kd.R_reads' HO_453000.out).2.1); rintro e w44 ⟨v459, rfl, ho0, hb⟩; refine ⟨_, rfl, ?_⟩; have n0_ := Aside0.mk (Kd.R_elder' (by (with_reducible repeat (first | apply Kd.R_alloc | apply Kd.R_drewN | apply Kd.R_drew)); exact HO_453000.out) (Kd.R_base ho0) hb); have n1_ := Aside0.mk (Kd.R_elder' (by (with_reducible repeat (first | apply Kd.R_alloc | apply Kd.R_drewN | apply Kd.R_drew)); exact HO_458000.out) (Kd.R_base ho0) hb); have n2_ := Aside0.mk (Kd.R_lower (Kd.R_new' (Kd.R_new' ho0 (Kd.R_lt (by (with_reducible repeat (first | apply Kd.R_alloc | apply Kd.R_drewN | apply Kd.R_drew)); exact HO_453000.out))) (Kd.R_lt (by (with_reducible repeat (first | apply Kd.R_alloc | apply Kd.R_drewN | apply Kd.R_drew)); exact HO_458000.out))) (below_size (by repeat (first | (with_reducible first | exact HB.out | apply below_alloc | apply pw_below_drewN | apply below_drew1 | refine below_set ?_ GE446.out | refine below_set ?_ GE452.out | refine below_set ?_ GE457.out) | exact HB.out)))); have n3_ := Aside0.mk (blk_below (g := gb446) (o := .cells #[.slice A0_0 l0_0.length c0_0] 24 (0, 0)) (by (with_reducible repeat (first | refine blk_drewN ?_ _ | refine blk_drew ?_ | refine blk_alloc ?_ _)); exact BK446.out) hb); have n4_ := Aside0.mk (blk_below (g := gb452) (o := .cells #[.slice Ao25 t448.length co25] 24 (0, 0)) (by (with_reducible repeat (first | refine blk_drewN ?_ _ | refine blk_drew ?_ | refine blk_alloc ?_ _)); exact BK452.out) hb); have n5_ := Aside0.mk (blk_below (g := gb457) (o := .cells #[.slice Ao31 t453.length co31] 24 (0, 0)) (by (with_reducible repeat (first | refine blk_drewN ?_ _ | refine blk_drew ?_ | refine blk_alloc ?_ _)); exact BK457.out) hb); have n6_ := Aside0.mk (below_step (by repeat (first | (with_reducible first | exact HB.out | apply below_alloc | apply pw_below_drewN | apply below_drew1 | refine below_set ?_ GE446.out | refine below_set ?_ GE452.out | refine below_set ?_ GE457.out) | exact HB.out)) hb); clear HO_453000; clear HO_458000; clear BK446; clear BK452; clear BK457; clear HB; have HO_453000 := n0_; have HO_458000 := n1_; have HO460 := n2_; have BK446 := n3_; have BK452 := n4_; have BK457 := n5_; have HB := n6_; clear n0_ n1_ n2_ n3_ n4_ n5_ n6_; (try clear hb); (try clear hb2); (try clear hk); (try clear hi); (try clear ho0)) | ((with_reducible refine gate_dst (N := 15) rfl ?_); (try (refine gate_guard (by rfl) ?_; dsimp only)); refine box_event ?hg (N := 15) ?hd (cs := #[.slice none 0 0]) (t := 24) ?hr ?_; (case hd => rfl); (case hg => rfl); (case hr => first | (go_simp; done) | (go_simp; rfl)); intro gb462 hg w45 hbox hb; have n0_ := Aside0.mk (Kd.R_below (by (with_reducible repeat (first | apply Kd.R_alloc | apply Kd.R_drewN | apply Kd.R_drew)); exact HO_453000.out) hb); have n1_ := Aside0.mk (Kd.R_below (by (with_reducible repeat (first | apply Kd.R_alloc | apply Kd.R_drewN | apply Kd.R_drew)); exact HO_458000.out) hb); have n2_ := Aside0.mk (Kd.R_below (by (with_reducible repeat (first | apply Kd.R_alloc | apply Kd.R_drewN | apply Kd.R_drew)); exact HO460.out) hb); have n3_ := Aside0.mk (blk_below (g := gb446) (o := .cells #[.slice A0_0 l0_0.length c0_0] 24 (0, 0)) (by (with_reducible repeat (first | refine blk_drewN ?_ _ | refine blk_drew ?_ | refine blk_alloc ?_ _)); exact BK446.out) hb); have n4_ := Aside0.mk (blk_below (g := gb452) (o := .cells #[.slice Ao25 t448.length co25] 24 (0, 0)) (by (with_reducible repeat (first | refine blk_drewN ?_ _ | refine blk_drew ?_ | refine blk_alloc ?_ _)); exact BK452.out) hb); have n5_ := Aside0.mk (blk_below (g := gb457) (o := .cells #[.slice Ao31 t453.length co31] 24 (0, 0)) (by (with_reducible repeat (first | refine blk_drewN ?_ _ | refine blk_drew ?_ | refine blk_alloc ?_ _)); exact BK457.out) hb); have n6_ := Aside0.mk (below_step (by repeat (first | (with_reducible first | exact HB.out | apply below_alloc | apply pw_below_drewN | apply below_drew1 | refine below_set ?_ GE446.out | refine below_set ?_ GE452.out | refine below_set ?_ GE457.out) | exact HB.out)) hb); have n7_ := Aside0.mk (hbox); have n8_ := Aside0.mk ((by rw [hg]; exact (below_size (by repeat (first | (with_reducible first | exact HB.out | apply below_alloc | apply pw_below_drewN | apply below_drew1 | refine below_set ?_ GE446.out | refine below_set ?_ GE452.out | refine below_set ?_ GE457.out) | exact HB.out))) : w.heap.size ≤ gb462)); have n9_ := Aside0.mk ((by rw [hg]; exact (below_size (by repeat (first | (with_reducible first | exact HB.out | apply below_alloc | apply pw_below_drewN | apply below_drew1 | refine below_set ?_ GE446.out | refine below_set ?_ GE452.out | refine below_set ?_ GE457.out) | exact HB.out))) : w.heap.size ≤ gb462)); have n10_ := Aside0.mk ((by rw [hg]; exact Nat.ne_of_lt (blk_lt (g := gb446) (o := .cells #[.slice A0_0 l0_0.length c0_0] 24 (0, 0)) (by (with_reducible repeat (first | refine blk_drewN ?_ _ | refine blk_drew ?_ | refine blk_alloc ?_ _)); exact BK446.out)) : gb446 ≠ gb462)); have n11_ := Aside0.mk ((by rw [hg]; exact Nat.ne_of_gt (blk_lt (g := gb446) (o := .cells #[.slice A0_0 l0_0.length c0_0] 24 (0, 0)) (by (with_reducible repeat (first | refine blk_drewN ?_ _ | refine blk_drew ?_ | refine blk_alloc ?_ _)); exact BK446.out)) : gb462 ≠ gb446)); have n12_ := Aside0.mk ((by rw [hg]; exact Nat.ne_of_lt (blk_lt (g := gb452) (o := .cells #[.slice Ao25 t448.length co25] 24 (0, 0)) (by (with_reducible repeat (first | refine blk_drewN ?_ _ | refine blk_drew ?_ | refine blk_alloc ?_ _)); exact BK452.out)) : gb452 ≠ gb462)); have n13_ := Aside0.mk ((by rw [hg]; exact Nat.ne_of_gt (blk_lt (g := gb452) (o := .cells #[.slice Ao25 t448.length co25] 24 (0, 0)) (by (with_reducible repeat (first | refine blk_drewN ?_ _ | refine blk_drew ?_ | refine blk_alloc ?_ _)); exact BK452.out)) : gb462 ≠ gb452)); have n14_ := Aside0.mk ((by rw [hg]; exact Nat.ne_of_lt (blk_lt (g := gb457) (o := .cells #[.slice Ao31 t453.length co31] 24 (0, 0)) (by (with_reducible repeat (first | refine blk_drewN ?_ _ | refine blk_drew ?_ | refine blk_alloc ?_ _)); exact BK457.out)) : gb457 ≠ gb462)); have n15_ := Aside0.mk ((by rw [hg]; exact Nat.ne_of_gt (blk_lt (g := gb457) (o := .cells #[.slice Ao31 t453.length co31] 24 (0, 0)) (by (with_reducible repeat (first | refine blk_drewN ?_ _ | refine blk_drew ?_ | refine blk_alloc ?_ _)); exact BK457.out)) : gb462 ≠ gb457)); clear HO_453000; clear HO_458000; clear HO460; clear BK446; clear BK452; clear BK457; clear HB; have HO_453000 := n0_; have HO_458000 := n1_; have HO460 := n2_; have BK446 := n3_; have BK452 := n4_; have BK457 := n5_; have HB := n6_; have BK462 := n7_; have GW462 := n8_; have GE462 := n9_; have NB446_462 := n10_; have NB462_446 := n11_; have NB452_462 := n12_; have NB462_452 := n13_; have NB457_462 := n14_; have NB462_457 := n15_; clear n0_ n1_ n2_ n3_ n4_ n5_ n6_ n7_ n8_ n9_ n10_ n11_ n12_ n13_ n14_ n15_; clear hb hbox hg; obtain ⟨Ao46, co46, eo46⟩ := Kd.R_slice HO460.out; subst eo46; have hnb47 := NB462_446.out; have hnc47 := NB446_462.out; have hnb48 := NB462_452.out; have hnc48 := NB452_462.out; have hnb49 := NB462_457.out; have hnc49 := NB457_462.out; have hcz50_0 : w45.cell? ⟨gb462, 0, none⟩ = some (.slice none 0 0) := (blk_cell BK462.out 0).trans rfl; have hfz50_0 := blk_frozen BK462.out 0; have hnb51 := NB457_446.out; have hnc51 := NB446_457.out; have hcz52_0 : w45.cell? ⟨gb457, 0, none⟩ = some (.slice Ao31 t453.length co31) := (blk_cell BK457.out 0).trans rfl; have hfz52_0 := blk_frozen BK457.out 0) | ((with_reducible refine gate_callee (f := 26) rfl ?_); refine goesL_ (some 73) rfl rfl Tryd.func26 (by kernel_rfl) rfl #[.agg #[.slice Ao31 t453.length co31], .string a1, .int .i64 a2] rfl (by (try simp only [List.map_toArray, List.map_cons, List.map_nil]); first | done | rfl | (simp only [List.length_drop, List.length_take]; rfl)) ?_; (with_reducible refine (trie_Put.calls kj20 _ _ t453 a1 a2 t463 t466 _ ?side1 ?side2 A38.out).mono ?_); (case side1 => refine (Kd.R_reads' (e := 71) (base := w.heap.size) (ok := fun k_ => (some k_ ≠ (.slice Ao25 t448.length co25 : Value).ownBlock ∧ some k_ ≠ (.slice Ao46 t458.length co46 : Value).ownBlock)) (n := t453.length) (c := co31) ?_).2.2; exact (by (with_reducible repeat (first | apply Kd.R_alloc | apply Kd.R_drewN | apply Kd.R_drew)); exact (Kd.R_mono (Kd.R_far (p := ⟨gb462, 0, none⟩) (Kd.R_types HO_458000.out BK462.out (by decide)) (fun _ hk => hk.2) (.slice Ao46 t458.length co46)) (fun _ h_ => h_.1)))); (case side2 => exact (Kd.R_reads' HO_458000.out).2.1); rintro e w53 ⟨v464, rfl, ho0, hb⟩; refine ⟨_, rfl, ?_⟩; have n0_ := Aside0.mk (Kd.R_elder' (by (with_reducible repeat (first | apply Kd.R_alloc | apply Kd.R_drewN | apply Kd.R_drew)); exact (Kd.R_mono (Kd.R_far (p := ⟨gb462, 0, none⟩) (Kd.R_types HO_453000.out BK462.out (by decide)) (fun _ hk => hk.2) (.slice Ao46 t458.length co46)) (fun _ h_ => h_.1))) (Kd.R_base ho0) hb); have n1_ := Aside0.mk (Kd.R_elder' (by (with_reducible repeat (first | apply Kd.R_alloc | apply Kd.R_drewN | apply Kd.R_drew)); exact (Kd.R_mono (Kd.R_far (p := ⟨gb462, 0, none⟩) (Kd.R_types HO_458000.out BK462.out (by decide)) (fun _ hk => hk.2) (.slice Ao46 t458.length co46)) (fun _ h_ => h_.1))) (Kd.R_base ho0) hb); have n2_ := Aside0.mk (Kd.R_elder' (by (with_reducible repeat (first | apply Kd.R_alloc | apply Kd.R_drewN | apply Kd.R_drew)); exact (Kd.R_mono (Kd.R_far (p := ⟨gb462, 0, none⟩) (Kd.R_types HO460.out BK462.out (by decide)) (fun _ hk => hk.2) (.slice Ao46 t458.length co46)) (fun _ h_ => h_.1))) (Kd.R_base ho0) hb); have n3_ := Aside0.mk (Kd.R_lower (Kd.R_new' (Kd.R_new' (Kd.R_new' ho0 (Kd.R_lt (by (with_reducible repeat (first | apply Kd.R_alloc | apply Kd.R_drewN | apply Kd.R_drew)); exact (Kd.R_mono (Kd.R_far (p := ⟨gb462, 0, none⟩) (Kd.R_types HO_453000.out BK462.out (by decide)) (fun _ hk => hk.2) (.slice Ao46 t458.length co46)) (fun _ h_ => h_.1))))) (Kd.R_lt (by (with_reducible repeat (first | apply Kd.R_alloc | apply Kd.R_drewN | apply Kd.R_drew)); exact (Kd.R_mono (Kd.R_far (p := ⟨gb462, 0, none⟩) (Kd.R_types HO_458000.out BK462.out (by decide)) (fun _ hk => hk.2) (.slice Ao46 t458.length co46)) (fun _ h_ => h_.1))))) (Kd.R_lt (by (with_reducible repeat (first | apply Kd.R_alloc | apply Kd.R_drewN | apply Kd.R_drew)); exact (Kd.R_mono (Kd.R_far (p := ⟨gb462, 0, none⟩) (Kd.R_types HO460.out BK462.out (by decide)) (fun _ hk => hk.2) (.slice Ao46 t458.length co46)) (fun _ h_ => h_.1))))) (below_size (by repeat (first | (with_reducible first | exact HB.out | apply below_alloc | apply pw_below_drewN | apply below_drew1 | refine below_set ?_ GE446.out | refine below_set ?_ GE452.out | refine below_set ?_ GE457.out | refine below_set ?_ GE462.out) | exact HB.out)))); have n4_ := Aside0.mk (blk_below (g := gb446) (o := .cells #[.slice A0_0 l0_0.length c0_0] 24 (0, 0)) (by (with_reducible repeat (first | refine blk_drewN ?_ _ | refine blk_drew ?_ | refine blk_alloc ?_ _)); refine blk_far ?_ NB446_462.out _; (with_reducible repeat (first | refine blk_drewN ?_ _ | refine blk_drew ?_ | refine blk_alloc ?_ _)); exact BK446.out) hb); have n5_ := Aside0.mk (blk_below (g := gb452) (o := .cells #[.slice Ao25 t448.length co25] 24 (0, 0)) (by (with_reducible repeat (first | refine blk_drewN ?_ _ | refine blk_drew ?_ | refine blk_alloc ?_ _)); refine blk_far ?_ NB452_462.out _; (with_reducible repeat (first | refine blk_drewN ?_ _ | refine blk_drew ?_ | refine blk_alloc ?_ _)); exact BK452.out) hb); have n6_ := Aside0.mk (blk_below (g := gb457) (o := .cells #[.slice Ao31 t453.length co31] 24 (0, 0)) (by (with_reducible repeat (first | refine blk_drewN ?_ _ | refine blk_drew ?_ | refine blk_alloc ?_ _)); refine blk_far ?_ NB457_462.out _; (with_reducible repeat (first | refine blk_drewN ?_ _ | refine blk_drew ?_ | refine blk_alloc ?_ _)); exact BK457.out) hb); have n7_ := Aside0.mk (blk_below (g := gb462) (o := .cells #[.slice Ao46 t458.length co46] 24 (0, 0)) (by (with_reducible repeat (first | refine blk_drewN ?_ _ | refine blk_drew ?_ | refine blk_alloc ?_ _)); refine blk_put (cs := #[.slice none 0 0]) ?_ 0 _ rfl; (with_reducible repeat (first | refine blk_drewN ?_ _ | refine blk_drew ?_ | refine blk_alloc ?_ _)); exact BK462.out) hb); have n8_ := Aside0.mk (below_step (by repeat (first | (with_reducible first | exact HB.out | apply below_alloc | apply pw_below_drewN | apply below_drew1 | refine below_set ?_ GE446.out | refine below_set ?_ GE452.out | refine below_set ?_ GE457.out | refine below_set ?_ GE462.out) | exact HB.out)) hb); clear HO_453000; clear HO_458000; clear HO460; clear BK446; clear BK452; clear BK457; clear BK462; clear HB; have HO_453000 := n0_; have HO_458000 := n1_; have HO460 := n2_; have HO465 := n3_; have BK446 := n4_; have BK452 := n5_; have BK457 := n6_; have BK462 := n7_; have HB := n8_; clear n0_ n1_ n2_ n3_ n4_ n5_ n6_ n7_ n8_; (try clear hb); (try clear hb2); (try clear hk); (try clear hi); (try clear ho0)) | ((with_reducible refine gate_dst (N := 17) rfl ?_); (try (refine gate_guard (by rfl) ?_; dsimp only)); refine box_event ?hg (N := 17) ?hd (cs := #[.slice none 0 0]) (t := 24) ?hr ?_; (case hd => rfl); (case hg => rfl); (case hr => first | (go_simp; done) | (go_simp; rfl)); intro gb467 hg w54 hbox hb; have n0_ := Aside0.mk (Kd.R_below (by (with_reducible repeat (first | apply Kd.R_alloc | apply Kd.R_drewN | apply Kd.R_drew)); exact HO_453000.out) hb); have n1_ := Aside0.mk (Kd.R_below (by (with_reducible repeat (first | apply Kd.R_alloc | apply Kd.R_drewN | apply Kd.R_drew)); exact HO_458000.out) hb); have n2_ := Aside0.mk (Kd.R_below (by (with_reducible repeat (first | apply Kd.R_alloc | apply Kd.R_drewN | apply Kd.R_drew)); exact HO460.out) hb); have n3_ := Aside0.mk (Kd.R_below (by (with_reducible repeat (first | apply Kd.R_alloc | apply Kd.R_drewN | apply Kd.R_drew)); exact HO465.out) hb); have n4_ := Aside0.mk (blk_below (g := gb446) (o := .cells #[.slice A0_0 l0_0.length c0_0] 24 (0, 0)) (by (with_reducible repeat (first | refine blk_drewN ?_ _ | refine blk_drew ?_ | refine blk_alloc ?_ _)); exact BK446.out) hb); have n5_ := Aside0.mk (blk_below (g := gb452) (o := .cells #[.slice Ao25 t448.length co25] 24 (0, 0)) (by (with_reducible repeat (first | refine blk_drewN ?_ _ | refine blk_drew ?_ | refine blk_alloc ?_ _)); exact BK452.out) hb); have n6_ := Aside0.mk (blk_below (g := gb457) (o := .cells #[.slice Ao31 t453.length co31] 24 (0, 0)) (by (with_reducible repeat (first | refine blk_drewN ?_ _ | refine blk_drew ?_ | refine blk_alloc ?_ _)); exact BK457.out) hb); have n7_ := Aside0.mk (blk_below (g := gb462) (o := .cells #[.slice Ao46 t458.length co46] 24 (0, 0)) (by (with_reducible repeat (first | refine blk_drewN ?_ _ | refine blk_drew ?_ | refine blk_alloc ?_ _)); exact BK462.out) hb); have n8_ := Aside0.mk (below_step (by repeat (first | (with_reducible first | exact HB.out | apply below_alloc | apply pw_below_drewN | apply below_drew1 | refine below_set ?_ GE446.out | refine below_set ?_ GE452.out | refine below_set ?_ GE457.out | refine below_set ?_ GE462.out) | exact HB.out)) hb); have n9_ := Aside0.mk (hbox); have n10_ := Aside0.mk ((by rw [hg]; exact (below_size (by repeat (first | (with_reducible first | exact HB.out | apply below_alloc | apply pw_below_drewN | apply below_drew1 | refine below_set ?_ GE446.out | refine below_set ?_ GE452.out | refine below_set ?_ GE457.out | refine below_set ?_ GE462.out) | exact HB.out))) : w.heap.size ≤ gb467)); have n11_ := Aside0.mk ((by rw [hg]; exact (below_size (by repeat (first | (with_reducible first | exact HB.out | apply below_alloc | apply pw_below_drewN | apply below_drew1 | refine below_set ?_ GE446.out | refine below_set ?_ GE452.out | refine below_set ?_ GE457.out | refine below_set ?_ GE462.out) | exact HB.out))) : w.heap.size ≤ gb467)); have n12_ := Aside0.mk ((by rw [hg]; exact Nat.ne_of_lt (blk_lt (g := gb446) (o := .cells #[.slice A0_0 l0_0.length c0_0] 24 (0, 0)) (by (with_reducible repeat (first | refine blk_drewN ?_ _ | refine blk_drew ?_ | refine blk_alloc ?_ _)); exact BK446.out)) : gb446 ≠ gb467)); have n13_ := Aside0.mk ((by rw [hg]; exact Nat.ne_of_gt (blk_lt (g := gb446) (o := .cells #[.slice A0_0 l0_0.length c0_0] 24 (0, 0)) (by (with_reducible repeat (first | refine blk_drewN ?_ _ | refine blk_drew ?_ | refine blk_alloc ?_ _)); exact BK446.out)) : gb467 ≠ gb446)); have n14_ := Aside0.mk ((by rw [hg]; exact Nat.ne_of_lt (blk_lt (g := gb452) (o := .cells #[.slice Ao25 t448.length co25] 24 (0, 0)) (by (with_reducible repeat (first | refine blk_drewN ?_ _ | refine blk_drew ?_ | refine blk_alloc ?_ _)); exact BK452.out)) : gb452 ≠ gb467)); have n15_ := Aside0.mk ((by rw [hg]; exact Nat.ne_of_gt (blk_lt (g := gb452) (o := .cells #[.slice Ao25 t448.length co25] 24 (0, 0)) (by (with_reducible repeat (first | refine blk_drewN ?_ _ | refine blk_drew ?_ | refine blk_alloc ?_ _)); exact BK452.out)) : gb467 ≠ gb452)); have n16_ := Aside0.mk ((by rw [hg]; exact Nat.ne_of_lt (blk_lt (g := gb457) (o := .cells #[.slice Ao31 t453.length co31] 24 (0, 0)) (by (with_reducible repeat (first | refine blk_drewN ?_ _ | refine blk_drew ?_ | refine blk_alloc ?_ _)); exact BK457.out)) : gb457 ≠ gb467)); have n17_ := Aside0.mk ((by rw [hg]; exact Nat.ne_of_gt (blk_lt (g := gb457) (o := .cells #[.slice Ao31 t453.length co31] 24 (0, 0)) (by (with_reducible repeat (first | refine blk_drewN ?_ _ | refine blk_drew ?_ | refine blk_alloc ?_ _)); exact BK457.out)) : gb467 ≠ gb457)); have n18_ := Aside0.mk ((by rw [hg]; exact Nat.ne_of_lt (blk_lt (g := gb462) (o := .cells #[.slice Ao46 t458.length co46] 24 (0, 0)) (by (with_reducible repeat (first | refine blk_drewN ?_ _ | refine blk_drew ?_ | refine blk_alloc ?_ _)); exact BK462.out)) : gb462 ≠ gb467)); have n19_ := Aside0.mk ((by rw [hg]; exact Nat.ne_of_gt (blk_lt (g := gb462) (o := .cells #[.slice Ao46 t458.length co46] 24 (0, 0)) (by (with_reducible repeat (first | refine blk_drewN ?_ _ | refine blk_drew ?_ | refine blk_alloc ?_ _)); exact BK462.out)) : gb467 ≠ gb462)); clear HO_453000; clear HO_458000; clear HO460; clear HO465; clear BK446; clear BK452; clear BK457; clear BK462; clear HB; have HO_453000 := n0_; have HO_458000 := n1_; have HO460 := n2_; have HO465 := n3_; have BK446 := n4_; have BK452 := n5_; have BK457 := n6_; have BK462 := n7_; have HB := n8_; have BK467 := n9_; have GW467 := n10_; have GE467 := n11_; have NB446_467 := n12_; have NB467_446 := n13_; have NB452_467 := n14_; have NB467_452 := n15_; have NB457_467 := n16_; have NB467_457 := n17_; have NB462_467 := n18_; have NB467_462 := n19_; clear n0_ n1_ n2_ n3_ n4_ n5_ n6_ n7_ n8_ n9_ n10_ n11_ n12_ n13_ n14_ n15_ n16_ n17_ n18_ n19_; clear hb hbox hg; obtain ⟨Ao55, co55, eo55⟩ := Kd.R_slice HO465.out; subst eo55; have hnb56 := NB467_446.out; have hnc56 := NB446_467.out; have hnb57 := NB467_452.out; have hnc57 := NB452_467.out; have hnb58 := NB467_457.out; have hnc58 := NB457_467.out; have hnb59 := NB467_462.out; have hnc59 := NB462_467.out; have hcz60_0 : w54.cell? ⟨gb467, 0, none⟩ = some (.slice none 0 0) := (blk_cell BK467.out 0).trans rfl; have hfz60_0 := blk_frozen BK467.out 0; have hcz61_0 : w54.cell? ⟨gb452, 0, none⟩ = some (.slice Ao25 t448.length co25) := (blk_cell BK452.out 0).trans rfl; have hfz61_0 := blk_frozen BK452.out 0) | ((with_reducible refine gate_callee (f := 28) rfl ?_); refine goesL_ (some 79) rfl rfl Tryd.func28 (by kernel_rfl) rfl #[.agg #[.slice Ao25 t448.length co25], .string a1] rfl (by (try simp only [List.map_toArray, List.map_cons, List.map_nil]); first | done | rfl | (simp only [List.length_drop, List.length_take]; rfl)) ?_; (with_reducible refine (trie_Drop.calls kj20 _ _ t448 a1 t468 t471 _ ?side1 ?side2 A39.out).mono ?_); (case side1 => refine (Kd.R_reads' (e := 71) (base := w.heap.size) (ok := fun k_ => ((some k_ ≠ (.slice Ao31 t453.length co31 : Value).ownBlock ∧ some k_ ≠ (.slice Ao46 t458.length co46 : Value).ownBlock) ∧ some k_ ≠ (.slice Ao55 t463.length co55 : Value).ownBlock)) (n := t448.length) (c := co25) ?_).2.2; exact (by (with_reducible repeat (first | apply Kd.R_alloc | apply Kd.R_drewN | apply Kd.R_drew)); exact (Kd.R_mono (Kd.R_far (p := ⟨gb467, 0, none⟩) (Kd.R_types HO_453000.out BK467.out (by decide)) (fun _ hk => hk.2) (.slice Ao55 t463.length co55)) (fun _ h_ => h_.1)))); (case side2 => exact (Kd.R_reads' HO_453000.out).2.1); rintro e w62 ⟨v469, rfl, ho0, hb⟩; refine ⟨_, rfl, ?_⟩; have n0_ := Aside0.mk (Kd.R_elder' (by (with_reducible repeat (first | apply Kd.R_alloc | apply Kd.R_drewN | apply Kd.R_drew)); exact (Kd.R_mono (Kd.R_far (p := ⟨gb467, 0, none⟩) (Kd.R_types HO_453000.out BK467.out (by decide)) (fun _ hk => hk.2) (.slice Ao55 t463.length co55)) (fun _ h_ => h_.1))) (Kd.R_base ho0) hb); have n1_ := Aside0.mk (Kd.R_elder' (by (with_reducible repeat (first | apply Kd.R_alloc | apply Kd.R_drewN | apply Kd.R_drew)); exact (Kd.R_mono (Kd.R_far (p := ⟨gb467, 0, none⟩) (Kd.R_types HO_458000.out BK467.out (by decide)) (fun _ hk => hk.2) (.slice Ao55 t463.length co55)) (fun _ h_ => h_.1))) (Kd.R_base ho0) hb); have n2_ := Aside0.mk (Kd.R_elder' (by (with_reducible repeat (first | apply Kd.R_alloc | apply Kd.R_drewN | apply Kd.R_drew)); exact (Kd.R_mono (Kd.R_far (p := ⟨gb467, 0, none⟩) (Kd.R_types HO460.out BK467.out (by decide)) (fun _ hk => hk.2) (.slice Ao55 t463.length co55)) (fun _ h_ => h_.1))) (Kd.R_base ho0) hb); have n3_ := Aside0.mk (Kd.R_elder' (by (with_reducible repeat (first | apply Kd.R_alloc | apply Kd.R_drewN | apply Kd.R_drew)); exact (Kd.R_mono (Kd.R_far (p := ⟨gb467, 0, none⟩) (Kd.R_types HO465.out BK467.out (by decide)) (fun _ hk => hk.2) (.slice Ao55 t463.length co55)) (fun _ h_ => h_.1))) (Kd.R_base ho0) hb); have n4_ := Aside0.mk (Kd.R_lower (Kd.R_new' (Kd.R_new' (Kd.R_new' (Kd.R_new' ho0 (Kd.R_lt (by (with_reducible repeat (first | apply Kd.R_alloc | apply Kd.R_drewN | apply Kd.R_drew)); exact (Kd.R_mono (Kd.R_far (p := ⟨gb467, 0, none⟩) (Kd.R_types HO_453000.out BK467.out (by decide)) (fun _ hk => hk.2) (.slice Ao55 t463.length co55)) (fun _ h_ => h_.1))))) (Kd.R_lt (by (with_reducible repeat (first | apply Kd.R_alloc | apply Kd.R_drewN | apply Kd.R_drew)); exact (Kd.R_mono (Kd.R_far (p := ⟨gb467, 0, none⟩) (Kd.R_types HO_458000.out BK467.out (by decide)) (fun _ hk => hk.2) (.slice Ao55 t463.length co55)) (fun _ h_ => h_.1))))) (Kd.R_lt (by (with_reducible repeat (first | apply Kd.R_alloc | apply Kd.R_drewN | apply Kd.R_drew)); exact (Kd.R_mono (Kd.R_far (p := ⟨gb467, 0, none⟩) (Kd.R_types HO460.out BK467.out (by decide)) (fun _ hk => hk.2) (.slice Ao55 t463.length co55)) (fun _ h_ => h_.1))))) (Kd.R_lt (by (with_reducible repeat (first | apply Kd.R_alloc | apply Kd.R_drewN | apply Kd.R_drew)); exact (Kd.R_mono (Kd.R_far (p := ⟨gb467, 0, none⟩) (Kd.R_types HO465.out BK467.out (by decide)) (fun _ hk => hk.2) (.slice Ao55 t463.length co55)) (fun _ h_ => h_.1))))) (below_size (by repeat (first | (with_reducible first | exact HB.out | apply below_alloc | apply pw_below_drewN | apply below_drew1 | refine below_set ?_ GE446.out | refine below_set ?_ GE452.out | refine below_set ?_ GE457.out | refine below_set ?_ GE462.out | refine below_set ?_ GE467.out) | exact HB.out)))); have n5_ := Aside0.mk (blk_below (g := gb446) (o := .cells #[.slice A0_0 l0_0.length c0_0] 24 (0, 0)) (by (with_reducible repeat (first | refine blk_drewN ?_ _ | refine blk_drew ?_ | refine blk_alloc ?_ _)); refine blk_far ?_ NB446_467.out _; (with_reducible repeat (first | refine blk_drewN ?_ _ | refine blk_drew ?_ | refine blk_alloc ?_ _)); exact BK446.out) hb); have n6_ := Aside0.mk (blk_below (g := gb452) (o := .cells #[.slice Ao25 t448.length co25] 24 (0, 0)) (by (with_reducible repeat (first | refine blk_drewN ?_ _ | refine blk_drew ?_ | refine blk_alloc ?_ _)); refine blk_far ?_ NB452_467.out _; (with_reducible repeat (first | refine blk_drewN ?_ _ | refine blk_drew ?_ | refine blk_alloc ?_ _)); exact BK452.out) hb); have n7_ := Aside0.mk (blk_below (g := gb457) (o := .cells #[.slice Ao31 t453.length co31] 24 (0, 0)) (by (with_reducible repeat (first | refine blk_drewN ?_ _ | refine blk_drew ?_ | refine blk_alloc ?_ _)); refine blk_far ?_ NB457_467.out _; (with_reducible repeat (first | refine blk_drewN ?_ _ | refine blk_drew ?_ | refine blk_alloc ?_ _)); exact BK457.out) hb); have n8_ := Aside0.mk (blk_below (g := gb462) (o := .cells #[.slice Ao46 t458.length co46] 24 (0, 0)) (by (with_reducible repeat (first | refine blk_drewN ?_ _ | refine blk_drew ?_ | refine blk_alloc ?_ _)); refine blk_far ?_ NB462_467.out _; (with_reducible repeat (first | refine blk_drewN ?_ _ | refine blk_drew ?_ | refine blk_alloc ?_ _)); exact BK462.out) hb); have n9_ := Aside0.mk (blk_below (g := gb467) (o := .cells #[.slice Ao55 t463.length co55] 24 (0, 0)) (by (with_reducible repeat (first | refine blk_drewN ?_ _ | refine blk_drew ?_ | refine blk_alloc ?_ _)); refine blk_put (cs := #[.slice none 0 0]) ?_ 0 _ rfl; (with_reducible repeat (first | refine blk_drewN ?_ _ | refine blk_drew ?_ | refine blk_alloc ?_ _)); exact BK467.out) hb); have n10_ := Aside0.mk (below_step (by repeat (first | (with_reducible first | exact HB.out | apply below_alloc | apply pw_below_drewN | apply below_drew1 | refine below_set ?_ GE446.out | refine below_set ?_ GE452.out | refine below_set ?_ GE457.out | refine below_set ?_ GE462.out | refine below_set ?_ GE467.out) | exact HB.out)) hb); clear HO_453000; clear HO_458000; clear HO460; clear HO465; clear BK446; clear BK452; clear BK457; clear BK462; clear BK467; clear HB; have HO_453000 := n0_; have HO_458000 := n1_; have HO460 := n2_; have HO465 := n3_; have HO470 := n4_; have BK446 := n5_; have BK452 := n6_; have BK457 := n7_; have BK462 := n8_; have BK467 := n9_; have HB := n10_; clear n0_ n1_ n2_ n3_ n4_ n5_ n6_ n7_ n8_ n9_ n10_; (try clear hb); (try clear hb2); (try clear hk); (try clear hi); (try clear ho0)) | ((with_reducible refine gate_dst (N := 19) rfl ?_); (try (refine gate_guard (by rfl) ?_; dsimp only)); refine box_event ?hg (N := 19) ?hd (cs := #[.slice none 0 0]) (t := 24) ?hr ?_; (case hd => rfl); (case hg => rfl); (case hr => first | (go_simp; done) | (go_simp; rfl)); intro gb472 hg w63 hbox hb; have n0_ := Aside0.mk (Kd.R_below (by (with_reducible repeat (first | apply Kd.R_alloc | apply Kd.R_drewN | apply Kd.R_drew)); exact HO_453000.out) hb); have n1_ := Aside0.mk (Kd.R_below (by (with_reducible repeat (first | apply Kd.R_alloc | apply Kd.R_drewN | apply Kd.R_drew)); exact HO_458000.out) hb); have n2_ := Aside0.mk (Kd.R_below (by (with_reducible repeat (first | apply Kd.R_alloc | apply Kd.R_drewN | apply Kd.R_drew)); exact HO460.out) hb); have n3_ := Aside0.mk (Kd.R_below (by (with_reducible repeat (first | apply Kd.R_alloc | apply Kd.R_drewN | apply Kd.R_drew)); exact HO465.out) hb); have n4_ := Aside0.mk (Kd.R_below (by (with_reducible repeat (first | apply Kd.R_alloc | apply Kd.R_drewN | apply Kd.R_drew)); exact HO470.out) hb); have n5_ := Aside0.mk (blk_below (g := gb446) (o := .cells #[.slice A0_0 l0_0.length c0_0] 24 (0, 0)) (by (with_reducible repeat (first | refine blk_drewN ?_ _ | refine blk_drew ?_ | refine blk_alloc ?_ _)); exact BK446.out) hb); have n6_ := Aside0.mk (blk_below (g := gb452) (o := .cells #[.slice Ao25 t448.length co25] 24 (0, 0)) (by (with_reducible repeat (first | refine blk_drewN ?_ _ | refine blk_drew ?_ | refine blk_alloc ?_ _)); exact BK452.out) hb); have n7_ := Aside0.mk (blk_below (g := gb457) (o := .cells #[.slice Ao31 t453.length co31] 24 (0, 0)) (by (with_reducible repeat (first | refine blk_drewN ?_ _ | refine blk_drew ?_ | refine blk_alloc ?_ _)); exact BK457.out) hb); have n8_ := Aside0.mk (blk_below (g := gb462) (o := .cells #[.slice Ao46 t458.length co46] 24 (0, 0)) (by (with_reducible repeat (first | refine blk_drewN ?_ _ | refine blk_drew ?_ | refine blk_alloc ?_ _)); exact BK462.out) hb); have n9_ := Aside0.mk (blk_below (g := gb467) (o := .cells #[.slice Ao55 t463.length co55] 24 (0, 0)) (by (with_reducible repeat (first | refine blk_drewN ?_ _ | refine blk_drew ?_ | refine blk_alloc ?_ _)); exact BK467.out) hb); have n10_ := Aside0.mk (below_step (by repeat (first | (with_reducible first | exact HB.out | apply below_alloc | apply pw_below_drewN | apply below_drew1 | refine below_set ?_ GE446.out | refine below_set ?_ GE452.out | refine below_set ?_ GE457.out | refine below_set ?_ GE462.out | refine below_set ?_ GE467.out) | exact HB.out)) hb); have n11_ := Aside0.mk (hbox); have n12_ := Aside0.mk ((by rw [hg]; exact (below_size (by repeat (first | (with_reducible first | exact HB.out | apply below_alloc | apply pw_below_drewN | apply below_drew1 | refine below_set ?_ GE446.out | refine below_set ?_ GE452.out | refine below_set ?_ GE457.out | refine below_set ?_ GE462.out | refine below_set ?_ GE467.out) | exact HB.out))) : w.heap.size ≤ gb472)); have n13_ := Aside0.mk ((by rw [hg]; exact (below_size (by repeat (first | (with_reducible first | exact HB.out | apply below_alloc | apply pw_below_drewN | apply below_drew1 | refine below_set ?_ GE446.out | refine below_set ?_ GE452.out | refine below_set ?_ GE457.out | refine below_set ?_ GE462.out | refine below_set ?_ GE467.out) | exact HB.out))) : w.heap.size ≤ gb472)); have n14_ := Aside0.mk ((by rw [hg]; exact Nat.ne_of_lt (blk_lt (g := gb446) (o := .cells #[.slice A0_0 l0_0.length c0_0] 24 (0, 0)) (by (with_reducible repeat (first | refine blk_drewN ?_ _ | refine blk_drew ?_ | refine blk_alloc ?_ _)); exact BK446.out)) : gb446 ≠ gb472)); have n15_ := Aside0.mk ((by rw [hg]; exact Nat.ne_of_gt (blk_lt (g := gb446) (o := .cells #[.slice A0_0 l0_0.length c0_0] 24 (0, 0)) (by (with_reducible repeat (first | refine blk_drewN ?_ _ | refine blk_drew ?_ | refine blk_alloc ?_ _)); exact BK446.out)) : gb472 ≠ gb446)); have n16_ := Aside0.mk ((by rw [hg]; exact Nat.ne_of_lt (blk_lt (g := gb452) (o := .cells #[.slice Ao25 t448.length co25] 24 (0, 0)) (by (with_reducible repeat (first | refine blk_drewN ?_ _ | refine blk_drew ?_ | refine blk_alloc ?_ _)); exact BK452.out)) : gb452 ≠ gb472)); have n17_ := Aside0.mk ((by rw [hg]; exact Nat.ne_of_gt (blk_lt (g := gb452) (o := .cells #[.slice Ao25 t448.length co25] 24 (0, 0)) (by (with_reducible repeat (first | refine blk_drewN ?_ _ | refine blk_drew ?_ | refine blk_alloc ?_ _)); exact BK452.out)) : gb472 ≠ gb452)); have n18_ := Aside0.mk ((by rw [hg]; exact Nat.ne_of_lt (blk_lt (g := gb457) (o := .cells #[.slice Ao31 t453.length co31] 24 (0, 0)) (by (with_reducible repeat (first | refine blk_drewN ?_ _ | refine blk_drew ?_ | refine blk_alloc ?_ _)); exact BK457.out)) : gb457 ≠ gb472)); have n19_ := Aside0.mk ((by rw [hg]; exact Nat.ne_of_gt (blk_lt (g := gb457) (o := .cells #[.slice Ao31 t453.length co31] 24 (0, 0)) (by (with_reducible repeat (first | refine blk_drewN ?_ _ | refine blk_drew ?_ | refine blk_alloc ?_ _)); exact BK457.out)) : gb472 ≠ gb457)); have n20_ := Aside0.mk ((by rw [hg]; exact Nat.ne_of_lt (blk_lt (g := gb462) (o := .cells #[.slice Ao46 t458.length co46] 24 (0, 0)) (by (with_reducible repeat (first | refine blk_drewN ?_ _ | refine blk_drew ?_ | refine blk_alloc ?_ _)); exact BK462.out)) : gb462 ≠ gb472)); have n21_ := Aside0.mk ((by rw [hg]; exact Nat.ne_of_gt (blk_lt (g := gb462) (o := .cells #[.slice Ao46 t458.length co46] 24 (0, 0)) (by (with_reducible repeat (first | refine blk_drewN ?_ _ | refine blk_drew ?_ | refine blk_alloc ?_ _)); exact BK462.out)) : gb472 ≠ gb462)); have n22_ := Aside0.mk ((by rw [hg]; exact Nat.ne_of_lt (blk_lt (g := gb467) (o := .cells #[.slice Ao55 t463.length co55] 24 (0, 0)) (by (with_reducible repeat (first | refine blk_drewN ?_ _ | refine blk_drew ?_ | refine blk_alloc ?_ _)); exact BK467.out)) : gb467 ≠ gb472)); have n23_ := Aside0.mk ((by rw [hg]; exact Nat.ne_of_gt (blk_lt (g := gb467) (o := .cells #[.slice Ao55 t463.length co55] 24 (0, 0)) (by (with_reducible repeat (first | refine blk_drewN ?_ _ | refine blk_drew ?_ | refine blk_alloc ?_ _)); exact BK467.out)) : gb472 ≠ gb467)); clear HO_453000; clear HO_458000; clear HO460; clear HO465; clear HO470; clear BK446; clear BK452; clear BK457; clear BK462; clear BK467; clear HB; have HO_453000 := n0_; have HO_458000 := n1_; have HO460 := n2_; have HO465 := n3_; have HO470 := n4_; have BK446 := n5_; have BK452 := n6_; have BK457 := n7_; have BK462 := n8_; have BK467 := n9_; have HB := n10_; have BK472 := n11_; have GW472 := n12_; have GE472 := n13_; have NB446_472 := n14_; have NB472_446 := n15_; have NB452_472 := n16_; have NB472_452 := n17_; have NB457_472 := n18_; have NB472_457 := n19_; have NB462_472 := n20_; have NB472_462 := n21_; have NB467_472 := n22_; have NB472_467 := n23_; clear n0_ n1_ n2_ n3_ n4_ n5_ n6_ n7_ n8_ n9_ n10_ n11_ n12_ n13_ n14_ n15_ n16_ n17_ n18_ n19_ n20_ n21_ n22_ n23_; clear hb hbox hg; obtain ⟨Ao64, co64, eo64⟩ := Kd.R_slice HO470.out; subst eo64; have hnb65 := NB472_446.out; have hnc65 := NB446_472.out; have hnb66 := NB472_452.out; have hnc66 := NB452_472.out; have hnb67 := NB472_457.out; have hnc67 := NB457_472.out; have hnb68 := NB472_462.out; have hnc68 := NB462_472.out; have hnb69 := NB472_467.out; have hnc69 := NB467_472.out; have hcz70_0 : w63.cell? ⟨gb472, 0, none⟩ = some (.slice none 0 0) := (blk_cell BK472.out 0).trans rfl; have hfz70_0 := blk_frozen BK472.out 0))
                (try simp only [Act.put, List.setIfInBounds_toArray, List.set_cons_zero, List.set_cons_succ])
                go_cut [96] (fun v96 wc => ∃ (kq : Nat) (x96_39 : Bool), v96 = .bool x96_39 ∧ Aside0 (crossbarlaw07_TrieCommutes.j2 kq a1 x96_39 l0_0 t458 t463 t468 = some r) ∧ Aside0 (kq ≤ kj20) ∧ Aside0 (Kd.R k71 71 wc w.heap.size (fun k_ => some k_ ≠ ((.slice Ao31 t453.length co31) : Value).ownBlock ∧ some k_ ≠ ((.slice Ao46 t458.length co46) : Value).ownBlock ∧ some k_ ≠ ((.slice Ao55 t463.length co55) : Value).ownBlock ∧ some k_ ≠ ((.slice Ao64 t468.length co64) : Value).ownBlock) (.slice Ao25 t448.length co25) t448) ∧ Aside0 (Kd.R k71 71 wc w.heap.size (fun k_ => some k_ ≠ ((.slice Ao25 t448.length co25) : Value).ownBlock ∧ some k_ ≠ ((.slice Ao46 t458.length co46) : Value).ownBlock ∧ some k_ ≠ ((.slice Ao55 t463.length co55) : Value).ownBlock ∧ some k_ ≠ ((.slice Ao64 t468.length co64) : Value).ownBlock) (.slice Ao31 t453.length co31) t453) ∧ Aside0 (Kd.R k71 71 wc w.heap.size (fun k_ => some k_ ≠ ((.slice Ao25 t448.length co25) : Value).ownBlock ∧ some k_ ≠ ((.slice Ao31 t453.length co31) : Value).ownBlock ∧ some k_ ≠ ((.slice Ao55 t463.length co55) : Value).ownBlock ∧ some k_ ≠ ((.slice Ao64 t468.length co64) : Value).ownBlock) (.slice Ao46 t458.length co46) t458) ∧ Aside0 (Kd.R k71 71 wc w.heap.size (fun k_ => some k_ ≠ ((.slice Ao25 t448.length co25) : Value).ownBlock ∧ some k_ ≠ ((.slice Ao31 t453.length co31) : Value).ownBlock ∧ some k_ ≠ ((.slice Ao46 t458.length co46) : Value).ownBlock ∧ some k_ ≠ ((.slice Ao64 t468.length co64) : Value).ownBlock) (.slice Ao55 t463.length co55) t463) ∧ Aside0 (Kd.R k71 71 wc w.heap.size (fun k_ => some k_ ≠ ((.slice Ao25 t448.length co25) : Value).ownBlock ∧ some k_ ≠ ((.slice Ao31 t453.length co31) : Value).ownBlock ∧ some k_ ≠ ((.slice Ao46 t458.length co46) : Value).ownBlock ∧ some k_ ≠ ((.slice Ao55 t463.length co55) : Value).ownBlock) (.slice Ao64 t468.length co64) t468) ∧ Aside0 (wc.heap[gb446]? = some (.cells #[(.slice A0_0 l0_0.length c0_0)] 24 (0, 0))) ∧ Aside0 (wc.heap[gb452]? = some (.cells #[(.slice Ao25 t448.length co25)] 24 (0, 0))) ∧ Aside0 (wc.heap[gb457]? = some (.cells #[(.slice Ao31 t453.length co31)] 24 (0, 0))) ∧ Aside0 (wc.heap[gb462]? = some (.cells #[(.slice Ao46 t458.length co46)] 24 (0, 0))) ∧ Aside0 (wc.heap[gb467]? = some (.cells #[(.slice Ao55 t463.length co55)] 24 (0, 0))) ∧ Aside0 (wc.heap[gb472]? = some (.cells #[(.slice Ao64 t468.length co64)] 24 (0, 0))) ∧ Aside0 (Below w.heap.size w wc))
                case first =>
                  have H := HC40.out
                  clear HC40
                  by_cases c71 : t461 = t466
                  · rw [if_pos c71] at H
                    have c71b0 : (t461 == t466) = true := beq_iff_eq.mpr c71
                    have c71b1 : (t461 != t466) = false := bne_eq_false_iff_eq.mpr c71
                    clear c71
                    (first | rw [c71b0] | (simp only [i64_w, i32_w]; rw [c71b0]) | skip)
                    by_cases c72 : t471 = 0
                    · rw [if_pos c72] at H
                      have c72b0 : (t471 == 0) = true := beq_iff_eq.mpr c72
                      have c72b1 : (t471 != 0) = false := bne_eq_false_iff_eq.mpr c72
                      clear c72
                      by_cases c73 : t461 = 0
                      · rw [if_pos c73] at H
                        have c73b0 : (t461 == 0) = true := beq_iff_eq.mpr c73
                        have c73b1 : (t461 != 0) = false := bne_eq_false_iff_eq.mpr c73
                        clear c73
                        have H' := Aside0.mk H
                        clear H
                        go_wp2
                        go_meet
                        case rel => exact ⟨_, (false), (by first | rfl | (simp; done) | (simp [*]; done)), H', ⟨by have := HJ7.out; have := HJ20.out; first | omega | exact Nat.le_refl _⟩, ⟨by (with_reducible repeat (first | apply Kd.R_alloc | apply Kd.R_drewN | apply Kd.R_drew)); exact Kd.R_mono (Kd.R_far (p := ⟨gb472, 0, none⟩) (Kd.R_types HO_453000.out BK472.out (by decide)) (fun _ hk => hk.2) (.slice Ao64 t468.length co64)) (fun _ hk => ⟨hk.1.1.1.1, ⟨hk.1.1.1.2, ⟨hk.1.1.2, hk.1.2⟩⟩⟩)⟩, ⟨by (with_reducible repeat (first | apply Kd.R_alloc | apply Kd.R_drewN | apply Kd.R_drew)); exact Kd.R_mono (Kd.R_far (p := ⟨gb472, 0, none⟩) (Kd.R_types HO_458000.out BK472.out (by decide)) (fun _ hk => hk.2) (.slice Ao64 t468.length co64)) (fun _ hk => ⟨hk.1.1.1.1, ⟨hk.1.1.1.2, ⟨hk.1.1.2, hk.1.2⟩⟩⟩)⟩, ⟨by (with_reducible repeat (first | apply Kd.R_alloc | apply Kd.R_drewN | apply Kd.R_drew)); exact Kd.R_mono (Kd.R_far (p := ⟨gb472, 0, none⟩) (Kd.R_types HO460.out BK472.out (by decide)) (fun _ hk => hk.2) (.slice Ao64 t468.length co64)) (fun _ hk => ⟨hk.1.1.1.1.2, ⟨hk.1.1.1.2, ⟨hk.1.1.2, hk.1.2⟩⟩⟩)⟩, ⟨by (with_reducible repeat (first | apply Kd.R_alloc | apply Kd.R_drewN | apply Kd.R_drew)); exact Kd.R_mono (Kd.R_far (p := ⟨gb472, 0, none⟩) (Kd.R_types HO465.out BK472.out (by decide)) (fun _ hk => hk.2) (.slice Ao64 t468.length co64)) (fun _ hk => ⟨hk.1.1.1.1.2, ⟨hk.1.1.1.2, ⟨hk.1.1.2, hk.1.2⟩⟩⟩)⟩, ⟨by (with_reducible repeat (first | apply Kd.R_alloc | apply Kd.R_drewN | apply Kd.R_drew)); exact Kd.R_mono (Kd.R_far (p := ⟨gb472, 0, none⟩) (Kd.R_types HO470.out BK472.out (by decide)) (fun _ hk => hk.2) (.slice Ao64 t468.length co64)) (fun _ hk => ⟨hk.1.1.1.1.2, ⟨hk.1.1.1.2, ⟨hk.1.1.2, hk.1.2⟩⟩⟩)⟩, ⟨by (with_reducible repeat (first | refine blk_drewN ?_ _ | refine blk_drew ?_ | refine blk_alloc ?_ _)); refine blk_far ?_ NB446_472.out _; (with_reducible repeat (first | refine blk_drewN ?_ _ | refine blk_drew ?_ | refine blk_alloc ?_ _)); exact BK446.out⟩, ⟨by (with_reducible repeat (first | refine blk_drewN ?_ _ | refine blk_drew ?_ | refine blk_alloc ?_ _)); refine blk_far ?_ NB452_472.out _; (with_reducible repeat (first | refine blk_drewN ?_ _ | refine blk_drew ?_ | refine blk_alloc ?_ _)); exact BK452.out⟩, ⟨by (with_reducible repeat (first | refine blk_drewN ?_ _ | refine blk_drew ?_ | refine blk_alloc ?_ _)); refine blk_far ?_ NB457_472.out _; (with_reducible repeat (first | refine blk_drewN ?_ _ | refine blk_drew ?_ | refine blk_alloc ?_ _)); exact BK457.out⟩, ⟨by (with_reducible repeat (first | refine blk_drewN ?_ _ | refine blk_drew ?_ | refine blk_alloc ?_ _)); refine blk_far ?_ NB462_472.out _; (with_reducible repeat (first | refine blk_drewN ?_ _ | refine blk_drew ?_ | refine blk_alloc ?_ _)); exact BK462.out⟩, ⟨by (with_reducible repeat (first | refine blk_drewN ?_ _ | refine blk_drew ?_ | refine blk_alloc ?_ _)); refine blk_far ?_ NB467_472.out _; (with_reducible repeat (first | refine blk_drewN ?_ _ | refine blk_drew ?_ | refine blk_alloc ?_ _)); exact BK467.out⟩, ⟨by (with_reducible repeat (first | refine blk_drewN ?_ _ | refine blk_drew ?_ | refine blk_alloc ?_ _)); refine blk_put (cs := #[.slice none 0 0]) ?_ 0 _ rfl; (with_reducible repeat (first | refine blk_drewN ?_ _ | refine blk_drew ?_ | refine blk_alloc ?_ _)); exact BK472.out⟩, ⟨by repeat (first | (with_reducible first | exact HB.out | apply below_alloc | apply pw_below_drewN | apply below_drew1 | refine below_set ?_ GE446.out | refine below_set ?_ GE452.out | refine below_set ?_ GE457.out | refine below_set ?_ GE462.out | refine below_set ?_ GE467.out | refine below_set ?_ GE472.out) | exact HB.out)⟩⟩
                      · rw [if_neg c73] at H
                        have c73b0 : (t461 == 0) = false := beq_eq_false_iff_ne.mpr c73
                        have c73b1 : (t461 != 0) = true := bne_iff_ne.mpr c73
                        have H' := Aside0.mk H
                        clear H
                        go_wp2
                        go_meet
                        case rel => exact ⟨_, ((t461 != 2)), (by first | rfl | (simp; done) | (simp [*]; done)), H', ⟨by have := HJ7.out; have := HJ20.out; first | omega | exact Nat.le_refl _⟩, ⟨by (with_reducible repeat (first | apply Kd.R_alloc | apply Kd.R_drewN | apply Kd.R_drew)); exact Kd.R_mono (Kd.R_far (p := ⟨gb472, 0, none⟩) (Kd.R_types HO_453000.out BK472.out (by decide)) (fun _ hk => hk.2) (.slice Ao64 t468.length co64)) (fun _ hk => ⟨hk.1.1.1.1, ⟨hk.1.1.1.2, ⟨hk.1.1.2, hk.1.2⟩⟩⟩)⟩, ⟨by (with_reducible repeat (first | apply Kd.R_alloc | apply Kd.R_drewN | apply Kd.R_drew)); exact Kd.R_mono (Kd.R_far (p := ⟨gb472, 0, none⟩) (Kd.R_types HO_458000.out BK472.out (by decide)) (fun _ hk => hk.2) (.slice Ao64 t468.length co64)) (fun _ hk => ⟨hk.1.1.1.1, ⟨hk.1.1.1.2, ⟨hk.1.1.2, hk.1.2⟩⟩⟩)⟩, ⟨by (with_reducible repeat (first | apply Kd.R_alloc | apply Kd.R_drewN | apply Kd.R_drew)); exact Kd.R_mono (Kd.R_far (p := ⟨gb472, 0, none⟩) (Kd.R_types HO460.out BK472.out (by decide)) (fun _ hk => hk.2) (.slice Ao64 t468.length co64)) (fun _ hk => ⟨hk.1.1.1.1.2, ⟨hk.1.1.1.2, ⟨hk.1.1.2, hk.1.2⟩⟩⟩)⟩, ⟨by (with_reducible repeat (first | apply Kd.R_alloc | apply Kd.R_drewN | apply Kd.R_drew)); exact Kd.R_mono (Kd.R_far (p := ⟨gb472, 0, none⟩) (Kd.R_types HO465.out BK472.out (by decide)) (fun _ hk => hk.2) (.slice Ao64 t468.length co64)) (fun _ hk => ⟨hk.1.1.1.1.2, ⟨hk.1.1.1.2, ⟨hk.1.1.2, hk.1.2⟩⟩⟩)⟩, ⟨by (with_reducible repeat (first | apply Kd.R_alloc | apply Kd.R_drewN | apply Kd.R_drew)); exact Kd.R_mono (Kd.R_far (p := ⟨gb472, 0, none⟩) (Kd.R_types HO470.out BK472.out (by decide)) (fun _ hk => hk.2) (.slice Ao64 t468.length co64)) (fun _ hk => ⟨hk.1.1.1.1.2, ⟨hk.1.1.1.2, ⟨hk.1.1.2, hk.1.2⟩⟩⟩)⟩, ⟨by (with_reducible repeat (first | refine blk_drewN ?_ _ | refine blk_drew ?_ | refine blk_alloc ?_ _)); refine blk_far ?_ NB446_472.out _; (with_reducible repeat (first | refine blk_drewN ?_ _ | refine blk_drew ?_ | refine blk_alloc ?_ _)); exact BK446.out⟩, ⟨by (with_reducible repeat (first | refine blk_drewN ?_ _ | refine blk_drew ?_ | refine blk_alloc ?_ _)); refine blk_far ?_ NB452_472.out _; (with_reducible repeat (first | refine blk_drewN ?_ _ | refine blk_drew ?_ | refine blk_alloc ?_ _)); exact BK452.out⟩, ⟨by (with_reducible repeat (first | refine blk_drewN ?_ _ | refine blk_drew ?_ | refine blk_alloc ?_ _)); refine blk_far ?_ NB457_472.out _; (with_reducible repeat (first | refine blk_drewN ?_ _ | refine blk_drew ?_ | refine blk_alloc ?_ _)); exact BK457.out⟩, ⟨by (with_reducible repeat (first | refine blk_drewN ?_ _ | refine blk_drew ?_ | refine blk_alloc ?_ _)); refine blk_far ?_ NB462_472.out _; (with_reducible repeat (first | refine blk_drewN ?_ _ | refine blk_drew ?_ | refine blk_alloc ?_ _)); exact BK462.out⟩, ⟨by (with_reducible repeat (first | refine blk_drewN ?_ _ | refine blk_drew ?_ | refine blk_alloc ?_ _)); refine blk_far ?_ NB467_472.out _; (with_reducible repeat (first | refine blk_drewN ?_ _ | refine blk_drew ?_ | refine blk_alloc ?_ _)); exact BK467.out⟩, ⟨by (with_reducible repeat (first | refine blk_drewN ?_ _ | refine blk_drew ?_ | refine blk_alloc ?_ _)); refine blk_put (cs := #[.slice none 0 0]) ?_ 0 _ rfl; (with_reducible repeat (first | refine blk_drewN ?_ _ | refine blk_drew ?_ | refine blk_alloc ?_ _)); exact BK472.out⟩, ⟨by repeat (first | (with_reducible first | exact HB.out | apply below_alloc | apply pw_below_drewN | apply below_drew1 | refine below_set ?_ GE446.out | refine below_set ?_ GE452.out | refine below_set ?_ GE457.out | refine below_set ?_ GE462.out | refine below_set ?_ GE467.out | refine below_set ?_ GE472.out) | exact HB.out)⟩⟩
                    · rw [if_neg c72] at H
                      have c72b0 : (t471 == 0) = false := beq_eq_false_iff_ne.mpr c72
                      have c72b1 : (t471 != 0) = true := bne_iff_ne.mpr c72
                      have H' := Aside0.mk H
                      clear H
                      go_wp2
                      go_meet
                      case rel => exact ⟨_, (true), (by first | rfl | (simp; done) | (simp [*]; done)), H', ⟨by have := HJ7.out; have := HJ20.out; first | omega | exact Nat.le_refl _⟩, ⟨by (with_reducible repeat (first | apply Kd.R_alloc | apply Kd.R_drewN | apply Kd.R_drew)); exact Kd.R_mono (Kd.R_far (p := ⟨gb472, 0, none⟩) (Kd.R_types HO_453000.out BK472.out (by decide)) (fun _ hk => hk.2) (.slice Ao64 t468.length co64)) (fun _ hk => ⟨hk.1.1.1.1, ⟨hk.1.1.1.2, ⟨hk.1.1.2, hk.1.2⟩⟩⟩)⟩, ⟨by (with_reducible repeat (first | apply Kd.R_alloc | apply Kd.R_drewN | apply Kd.R_drew)); exact Kd.R_mono (Kd.R_far (p := ⟨gb472, 0, none⟩) (Kd.R_types HO_458000.out BK472.out (by decide)) (fun _ hk => hk.2) (.slice Ao64 t468.length co64)) (fun _ hk => ⟨hk.1.1.1.1, ⟨hk.1.1.1.2, ⟨hk.1.1.2, hk.1.2⟩⟩⟩)⟩, ⟨by (with_reducible repeat (first | apply Kd.R_alloc | apply Kd.R_drewN | apply Kd.R_drew)); exact Kd.R_mono (Kd.R_far (p := ⟨gb472, 0, none⟩) (Kd.R_types HO460.out BK472.out (by decide)) (fun _ hk => hk.2) (.slice Ao64 t468.length co64)) (fun _ hk => ⟨hk.1.1.1.1.2, ⟨hk.1.1.1.2, ⟨hk.1.1.2, hk.1.2⟩⟩⟩)⟩, ⟨by (with_reducible repeat (first | apply Kd.R_alloc | apply Kd.R_drewN | apply Kd.R_drew)); exact Kd.R_mono (Kd.R_far (p := ⟨gb472, 0, none⟩) (Kd.R_types HO465.out BK472.out (by decide)) (fun _ hk => hk.2) (.slice Ao64 t468.length co64)) (fun _ hk => ⟨hk.1.1.1.1.2, ⟨hk.1.1.1.2, ⟨hk.1.1.2, hk.1.2⟩⟩⟩)⟩, ⟨by (with_reducible repeat (first | apply Kd.R_alloc | apply Kd.R_drewN | apply Kd.R_drew)); exact Kd.R_mono (Kd.R_far (p := ⟨gb472, 0, none⟩) (Kd.R_types HO470.out BK472.out (by decide)) (fun _ hk => hk.2) (.slice Ao64 t468.length co64)) (fun _ hk => ⟨hk.1.1.1.1.2, ⟨hk.1.1.1.2, ⟨hk.1.1.2, hk.1.2⟩⟩⟩)⟩, ⟨by (with_reducible repeat (first | refine blk_drewN ?_ _ | refine blk_drew ?_ | refine blk_alloc ?_ _)); refine blk_far ?_ NB446_472.out _; (with_reducible repeat (first | refine blk_drewN ?_ _ | refine blk_drew ?_ | refine blk_alloc ?_ _)); exact BK446.out⟩, ⟨by (with_reducible repeat (first | refine blk_drewN ?_ _ | refine blk_drew ?_ | refine blk_alloc ?_ _)); refine blk_far ?_ NB452_472.out _; (with_reducible repeat (first | refine blk_drewN ?_ _ | refine blk_drew ?_ | refine blk_alloc ?_ _)); exact BK452.out⟩, ⟨by (with_reducible repeat (first | refine blk_drewN ?_ _ | refine blk_drew ?_ | refine blk_alloc ?_ _)); refine blk_far ?_ NB457_472.out _; (with_reducible repeat (first | refine blk_drewN ?_ _ | refine blk_drew ?_ | refine blk_alloc ?_ _)); exact BK457.out⟩, ⟨by (with_reducible repeat (first | refine blk_drewN ?_ _ | refine blk_drew ?_ | refine blk_alloc ?_ _)); refine blk_far ?_ NB462_472.out _; (with_reducible repeat (first | refine blk_drewN ?_ _ | refine blk_drew ?_ | refine blk_alloc ?_ _)); exact BK462.out⟩, ⟨by (with_reducible repeat (first | refine blk_drewN ?_ _ | refine blk_drew ?_ | refine blk_alloc ?_ _)); refine blk_far ?_ NB467_472.out _; (with_reducible repeat (first | refine blk_drewN ?_ _ | refine blk_drew ?_ | refine blk_alloc ?_ _)); exact BK467.out⟩, ⟨by (with_reducible repeat (first | refine blk_drewN ?_ _ | refine blk_drew ?_ | refine blk_alloc ?_ _)); refine blk_put (cs := #[.slice none 0 0]) ?_ 0 _ rfl; (with_reducible repeat (first | refine blk_drewN ?_ _ | refine blk_drew ?_ | refine blk_alloc ?_ _)); exact BK472.out⟩, ⟨by repeat (first | (with_reducible first | exact HB.out | apply below_alloc | apply pw_below_drewN | apply below_drew1 | refine below_set ?_ GE446.out | refine below_set ?_ GE452.out | refine below_set ?_ GE457.out | refine below_set ?_ GE462.out | refine below_set ?_ GE467.out | refine below_set ?_ GE472.out) | exact HB.out)⟩⟩
                  · rw [if_neg c71] at H
                    have c71b0 : (t461 == t466) = false := beq_eq_false_iff_ne.mpr c71
                    have c71b1 : (t461 != t466) = true := bne_iff_ne.mpr c71
                    (first | rw [c71b0] | (simp only [i64_w, i32_w]; rw [c71b0]) | skip)
                    have H' := Aside0.mk H
                    clear H
                    go_wp2
                    go_meet
                    case rel => exact ⟨_, (true), (by first | rfl | (simp; done) | (simp [*]; done)), H', ⟨by have := HJ7.out; have := HJ20.out; first | omega | exact Nat.le_refl _⟩, ⟨by (with_reducible repeat (first | apply Kd.R_alloc | apply Kd.R_drewN | apply Kd.R_drew)); exact Kd.R_mono (Kd.R_far (p := ⟨gb472, 0, none⟩) (Kd.R_types HO_453000.out BK472.out (by decide)) (fun _ hk => hk.2) (.slice Ao64 t468.length co64)) (fun _ hk => ⟨hk.1.1.1.1, ⟨hk.1.1.1.2, ⟨hk.1.1.2, hk.1.2⟩⟩⟩)⟩, ⟨by (with_reducible repeat (first | apply Kd.R_alloc | apply Kd.R_drewN | apply Kd.R_drew)); exact Kd.R_mono (Kd.R_far (p := ⟨gb472, 0, none⟩) (Kd.R_types HO_458000.out BK472.out (by decide)) (fun _ hk => hk.2) (.slice Ao64 t468.length co64)) (fun _ hk => ⟨hk.1.1.1.1, ⟨hk.1.1.1.2, ⟨hk.1.1.2, hk.1.2⟩⟩⟩)⟩, ⟨by (with_reducible repeat (first | apply Kd.R_alloc | apply Kd.R_drewN | apply Kd.R_drew)); exact Kd.R_mono (Kd.R_far (p := ⟨gb472, 0, none⟩) (Kd.R_types HO460.out BK472.out (by decide)) (fun _ hk => hk.2) (.slice Ao64 t468.length co64)) (fun _ hk => ⟨hk.1.1.1.1.2, ⟨hk.1.1.1.2, ⟨hk.1.1.2, hk.1.2⟩⟩⟩)⟩, ⟨by (with_reducible repeat (first | apply Kd.R_alloc | apply Kd.R_drewN | apply Kd.R_drew)); exact Kd.R_mono (Kd.R_far (p := ⟨gb472, 0, none⟩) (Kd.R_types HO465.out BK472.out (by decide)) (fun _ hk => hk.2) (.slice Ao64 t468.length co64)) (fun _ hk => ⟨hk.1.1.1.1.2, ⟨hk.1.1.1.2, ⟨hk.1.1.2, hk.1.2⟩⟩⟩)⟩, ⟨by (with_reducible repeat (first | apply Kd.R_alloc | apply Kd.R_drewN | apply Kd.R_drew)); exact Kd.R_mono (Kd.R_far (p := ⟨gb472, 0, none⟩) (Kd.R_types HO470.out BK472.out (by decide)) (fun _ hk => hk.2) (.slice Ao64 t468.length co64)) (fun _ hk => ⟨hk.1.1.1.1.2, ⟨hk.1.1.1.2, ⟨hk.1.1.2, hk.1.2⟩⟩⟩)⟩, ⟨by (with_reducible repeat (first | refine blk_drewN ?_ _ | refine blk_drew ?_ | refine blk_alloc ?_ _)); refine blk_far ?_ NB446_472.out _; (with_reducible repeat (first | refine blk_drewN ?_ _ | refine blk_drew ?_ | refine blk_alloc ?_ _)); exact BK446.out⟩, ⟨by (with_reducible repeat (first | refine blk_drewN ?_ _ | refine blk_drew ?_ | refine blk_alloc ?_ _)); refine blk_far ?_ NB452_472.out _; (with_reducible repeat (first | refine blk_drewN ?_ _ | refine blk_drew ?_ | refine blk_alloc ?_ _)); exact BK452.out⟩, ⟨by (with_reducible repeat (first | refine blk_drewN ?_ _ | refine blk_drew ?_ | refine blk_alloc ?_ _)); refine blk_far ?_ NB457_472.out _; (with_reducible repeat (first | refine blk_drewN ?_ _ | refine blk_drew ?_ | refine blk_alloc ?_ _)); exact BK457.out⟩, ⟨by (with_reducible repeat (first | refine blk_drewN ?_ _ | refine blk_drew ?_ | refine blk_alloc ?_ _)); refine blk_far ?_ NB462_472.out _; (with_reducible repeat (first | refine blk_drewN ?_ _ | refine blk_drew ?_ | refine blk_alloc ?_ _)); exact BK462.out⟩, ⟨by (with_reducible repeat (first | refine blk_drewN ?_ _ | refine blk_drew ?_ | refine blk_alloc ?_ _)); refine blk_far ?_ NB467_472.out _; (with_reducible repeat (first | refine blk_drewN ?_ _ | refine blk_drew ?_ | refine blk_alloc ?_ _)); exact BK467.out⟩, ⟨by (with_reducible repeat (first | refine blk_drewN ?_ _ | refine blk_drew ?_ | refine blk_alloc ?_ _)); refine blk_put (cs := #[.slice none 0 0]) ?_ 0 _ rfl; (with_reducible repeat (first | refine blk_drewN ?_ _ | refine blk_drew ?_ | refine blk_alloc ?_ _)); exact BK472.out⟩, ⟨by repeat (first | (with_reducible first | exact HB.out | apply below_alloc | apply pw_below_drewN | apply below_drew1 | refine below_set ?_ GE446.out | refine below_set ?_ GE452.out | refine below_set ?_ GE457.out | refine below_set ?_ GE462.out | refine below_set ?_ GE467.out | refine below_set ?_ GE472.out) | exact HB.out)⟩⟩
                case rest =>
                  clear HC40
                  try clear c1
                  try clear c2
                  try clear p2
                  try clear c3
                  try clear c4
                  try clear c5
                  try clear c6
                  try clear c7
                  try clear c10
                  try clear c11
                  try clear c11b0
                  try clear c11b1
                  try clear c13
                  try clear c13b0
                  try clear c13b1
                  try clear c15
                  try clear c15b0
                  try clear c15b1
                  try clear c18
                  try clear c26
                  try clear c28
                  try clear c32
                  try clear c33
                  try clear c35
                  try clear c35b0
                  try clear c35b1
                  try clear c36
                  try clear c41
                  try clear c42
                  try clear c47
                  try clear c48
                  try clear c49
                  try clear c51
                  try clear c56
                  try clear c57
                  try clear c58
                  try clear c59
                  try clear c65
                  try clear c66
                  try clear c67
                  try clear c68
                  try clear c69
                  try clear c71
                  try clear c71b0
                  try clear c71b1
                  try clear c72
                  try clear c72b0
                  try clear c72b1
                  try clear c73
                  try clear c73b0
                  try clear c73b1
                  try clear hcz12_0
                  try clear hcz14_0
                  try clear hcz16_0
                  try clear hcz17_0
                  try clear hcz22_0
                  try clear hcz27_0
                  try clear hcz28_0
                  try clear hcz34_0
                  try clear hcz43_0
                  try clear hcz50_0
                  try clear hcz52_0
                  try clear hcz60_0
                  try clear hcz61_0
                  try clear hcz70_0
                  try clear hfz12_0
                  try clear hfz14_0
                  try clear hfz16_0
                  try clear hfz17_0
                  try clear hfz22_0
                  try clear hfz27_0
                  try clear hfz28_0
                  try clear hfz34_0
                  try clear hfz43_0
                  try clear hfz50_0
                  try clear hfz52_0
                  try clear hfz60_0
                  try clear hfz61_0
                  try clear hfz70_0
                  try clear p2
                  obtain ⟨kq, x96_39, rfl, HA, HJ39, HO_453000, HO_458000, HO_463000, HO_468000, HO_473000, BK446, BK452, BK457, BK462, BK467, BK472, HB⟩ := hcut
                  cases kq with
                  | zero => exact absurd HA.out (by simp [crossbarlaw07_TrieCommutes.j2])
                  | succ kj39 =>
                    have H := HA.out
                    clear HA
                    simp only [crossbarlaw07_TrieCommutes.j2] at H
                    by_cases c74 : x96_39 = true
                    · subst c74
                      have H1 : (some false) = some r := by rw [if_pos rfl] at H; exact H
                      clear H
                      have H := H1
                      clear H1
                      exact absurd ((Option.some.inj H).trans ht) (by decide)
                    · replace c74 := Bool.eq_false_iff.mpr c74
                      subst c74
                      have H1 : ((trie_Entries.f kj39 t458).bind fun t473 => ((trie_Entries.f kj39 t463).bind fun t476 => ((crossbarref07_SameEntries.f kj39 t473 t476).bind fun t479 => (if t479 = true then ((trie_Entries.f kj39 t468).bind fun t480 => ((trie_Entries.f kj39 l0_0).bind fun t483 => ((crossbarlaw07_without.f kj39 t483 a1).bind fun t486 => ((crossbarref07_SameEntries.f kj39 t480 t486).bind fun t489 => (some t489))))) else (some false))))) = some r := by rw [if_neg (show ¬ (false = true) by decide)] at H; exact H
                      clear H
                      have H := H1
                      clear H1
                      replace H := Option.bind_eq_some_iff.mp H
                      obtain ⟨t473, A750, H⟩ := H
                      replace H : ((trie_Entries.f kj39 t463).bind fun t476 => ((crossbarref07_SameEntries.f kj39 t473 t476).bind fun t479 => (if t479 = true then ((trie_Entries.f kj39 t468).bind fun t480 => ((trie_Entries.f kj39 l0_0).bind fun t483 => ((crossbarlaw07_without.f kj39 t483 a1).bind fun t486 => ((crossbarref07_SameEntries.f kj39 t480 t486).bind fun t489 => (some t489))))) else (some false)))) = some r := H
                      have A75 := Aside0.mk A750
                      clear A750
                      replace H := Option.bind_eq_some_iff.mp H
                      obtain ⟨t476, A760, H⟩ := H
                      replace H : ((crossbarref07_SameEntries.f kj39 t473 t476).bind fun t479 => (if t479 = true then ((trie_Entries.f kj39 t468).bind fun t480 => ((trie_Entries.f kj39 l0_0).bind fun t483 => ((crossbarlaw07_without.f kj39 t483 a1).bind fun t486 => ((crossbarref07_SameEntries.f kj39 t480 t486).bind fun t489 => (some t489))))) else (some false))) = some r := H
                      have A76 := Aside0.mk A760
                      clear A760
                      replace H := Option.bind_eq_some_iff.mp H
                      obtain ⟨t479, A770, H⟩ := H
                      replace H : (if t479 = true then ((trie_Entries.f kj39 t468).bind fun t480 => ((trie_Entries.f kj39 l0_0).bind fun t483 => ((crossbarlaw07_without.f kj39 t483 a1).bind fun t486 => ((crossbarref07_SameEntries.f kj39 t480 t486).bind fun t489 => (some t489))))) else (some false)) = some r := H
                      have A77 := Aside0.mk A770
                      clear A770
                      by_cases c78 : t479 = true
                      · subst c78
                        have H1 : ((trie_Entries.f kj39 t468).bind fun t480 => ((trie_Entries.f kj39 l0_0).bind fun t483 => ((crossbarlaw07_without.f kj39 t483 a1).bind fun t486 => ((crossbarref07_SameEntries.f kj39 t480 t486).bind fun t489 => (some t489))))) = some r := by rw [if_pos rfl] at H; exact H
                        clear H
                        have H := H1
                        clear H1
                        replace H := Option.bind_eq_some_iff.mp H
                        obtain ⟨t480, A790, H⟩ := H
                        replace H : ((trie_Entries.f kj39 l0_0).bind fun t483 => ((crossbarlaw07_without.f kj39 t483 a1).bind fun t486 => ((crossbarref07_SameEntries.f kj39 t480 t486).bind fun t489 => (some t489)))) = some r := H
                        have A79 := Aside0.mk A790
                        clear A790
                        replace H := Option.bind_eq_some_iff.mp H
                        obtain ⟨t483, A800, H⟩ := H
                        replace H : ((crossbarlaw07_without.f kj39 t483 a1).bind fun t486 => ((crossbarref07_SameEntries.f kj39 t480 t486).bind fun t489 => (some t489))) = some r := H
                        have A80 := Aside0.mk A800
                        clear A800
                        replace H := Option.bind_eq_some_iff.mp H
                        obtain ⟨t486, A810, H⟩ := H
                        replace H : ((crossbarref07_SameEntries.f kj39 t480 t486).bind fun t489 => (some t489)) = some r := H
                        have A81 := Aside0.mk A810
                        clear A810
                        replace H := Option.bind_eq_some_iff.mp H
                        obtain ⟨t489, A820, H⟩ := H
                        replace H : (some t489) = some r := H
                        have A82 := Aside0.mk A820
                        clear A820
                        obtain rfl := Option.some.inj H
                        try go_wp2
                        have n0_ := Aside0.mk (Kd.R_drew HO_453000.out)
                        have n1_ := Aside0.mk (Kd.R_drew HO_458000.out)
                        have n2_ := Aside0.mk (Kd.R_drew HO_463000.out)
                        have n3_ := Aside0.mk (Kd.R_drew HO_468000.out)
                        have n4_ := Aside0.mk (Kd.R_drew HO_473000.out)
                        have n5_ := Aside0.mk (blk_drew BK446.out)
                        have n6_ := Aside0.mk (blk_drew BK452.out)
                        have n7_ := Aside0.mk (blk_drew BK457.out)
                        have n8_ := Aside0.mk (blk_drew BK462.out)
                        have n9_ := Aside0.mk (blk_drew BK467.out)
                        have n10_ := Aside0.mk (blk_drew BK472.out)
                        have n11_ := Aside0.mk (below_drew1 HB.out)
                        clear HO_453000
                        clear HO_458000
                        clear HO_463000
                        clear HO_468000
                        clear HO_473000
                        clear BK446
                        clear BK452
                        clear BK457
                        clear BK462
                        clear BK467
                        clear BK472
                        clear HB
                        have HO_453000 := n0_
                        have HO_458000 := n1_
                        have HO_463000 := n2_
                        have HO_468000 := n3_
                        have HO_473000 := n4_
                        have BK446 := n5_
                        have BK452 := n6_
                        have BK457 := n7_
                        have BK462 := n8_
                        have BK467 := n9_
                        have BK472 := n10_
                        have HB := n11_
                        clear n0_ n1_ n2_ n3_ n4_ n5_ n6_ n7_ n8_ n9_ n10_ n11_
                        refine start_ (n := 15) (S := fun w' => w'.cell? ⟨gb462, 0, none⟩ = some (.slice Ao46 t458.length co46) ∧ w'.cell? ⟨gb467, 0, none⟩ = some (.slice Ao55 t463.length co55) ∧ w'.cell? ⟨gb472, 0, none⟩ = some (.slice Ao64 t468.length co64) ∧ w'.cell? ⟨gb446, 0, none⟩ = some (.slice A0_0 l0_0.length c0_0)) (ds := []) #[false, false, false, false, false, false, false, false, false, false, false, false, false, false, false] (by kernel_rfl) rfl rfl ⟨(blk_cell BK462.out 0).trans rfl, (blk_cell BK467.out 0).trans rfl, (blk_cell BK472.out 0).trans rfl, (blk_cell BK446.out 0).trans rfl⟩ (fun hHeld => ?_); refine with_tabW crossbarlaw07_TrieCommutes.tab14 crossbarlaw07_TrieCommutes.bits14 (fun HT_ HW_ => ?_)
                        generalize wc.drew = w83 at HO_453000 HO_458000 HO_463000 HO_468000 HO_473000 BK446 BK452 BK457 BK462 BK467 BK472 HB hHeld ⊢
                        refine take_ (i := 0) (N := some 97) (v := ?_) (a' := ?_) #[true, false, false, false, false, false, false, false, false, false, false, false, false, false, false] rfl rfl (take_ofW HT_.out HW_.out (by kernel_rfl)) (fun _ _ _ h => h) (Or.inl ⟨by rfl, ?_⟩) hHeld ?_ ?_
                        rotate_left
                        · rintro w' ⟨s0, s1, s2, s3⟩
                          go_simp
                          with_reducible rfl
                        rotate_left
                        · simp only [Act.put, List.setIfInBounds_toArray, List.set_cons_zero, List.set_cons_succ, i64_w, i32_w]
                          rfl
                        refine take_ (i := 2) (N := some 99) (v := ?_) (a' := ?_) #[true, false, true, false, false, false, false, false, false, false, false, false, false, false, false] rfl rfl (take_ofW HT_.out HW_.out (by kernel_rfl)) (fun _ _ _ h => h) (Or.inl ⟨by rfl, ?_⟩) hHeld ?_ ?_
                        rotate_left
                        · rintro w' ⟨s0, s1, s2, s3⟩
                          go_simp
                          with_reducible rfl
                        rotate_left
                        · simp only [Act.put, List.setIfInBounds_toArray, List.set_cons_zero, List.set_cons_succ, i64_w, i32_w]
                          rfl
                        refine one_ (i := 1) (N := some 98) #[true, true, true, false, false, false, false, false, false, false, false, false, false, false, false] rfl rfl (one_of HT_.out (by kernel_rfl)) (by decide) (fun K hK => ?_)
                        refine goes_ Tryd.func22 (by kernel_rfl) rfl #[.agg #[.slice Ao46 t458.length co46]] (by rfl) rfl rfl (by (try simp only [List.map_toArray, List.map_cons, List.map_nil]); first | done | rfl | (simp only [List.length_drop, List.length_take]; rfl)) ?_
                        with_reducible refine (trie_Entries.calls kj39 _ _ t458 t473 _ ?side1 ?side2 A75.out).mono ?_
                        (case side1 => repeat (first | exact (Kd.R_reads' HO_463000.out).2.2 | (with_reducible refine Kd.C_alloc ?_ _) | (with_reducible refine Kd.C_drewN ?_ _) | (with_reducible refine Kd.C_drew ?_)))
                        (case side2 => exact (Kd.R_reads' HO_463000.out).2.1)
                        rintro e w84 ⟨v474, rfl, ho0, hb⟩
                        refine ⟨_, rfl, ?_⟩
                        have n0_ := Aside0.mk (Kd.R_below (by (with_reducible repeat (first | apply Kd.R_alloc | apply Kd.R_drewN | apply Kd.R_drew)); exact HO_453000.out) hb)
                        have n1_ := Aside0.mk (Kd.R_below (by (with_reducible repeat (first | apply Kd.R_alloc | apply Kd.R_drewN | apply Kd.R_drew)); exact HO_458000.out) hb)
                        have n2_ := Aside0.mk (Kd.R_below (by (with_reducible repeat (first | apply Kd.R_alloc | apply Kd.R_drewN | apply Kd.R_drew)); exact HO_463000.out) hb)
                        have n3_ := Aside0.mk (Kd.R_below (by (with_reducible repeat (first | apply Kd.R_alloc | apply Kd.R_drewN | apply Kd.R_drew)); exact HO_468000.out) hb)
                        have n4_ := Aside0.mk (Kd.R_below (by (with_reducible repeat (first | apply Kd.R_alloc | apply Kd.R_drewN | apply Kd.R_drew)); exact HO_473000.out) hb)
                        have n5_ := Aside0.mk (Kd.R_lower ho0 (below_size (by repeat (first | (with_reducible first | exact HB.out | apply below_alloc | apply pw_below_drewN | apply below_drew1 | refine below_set ?_ GE446.out | refine below_set ?_ GE452.out | refine below_set ?_ GE457.out | refine below_set ?_ GE462.out | refine below_set ?_ GE467.out | refine below_set ?_ GE472.out) | exact HB.out))))
                        have n6_ := Aside0.mk (blk_below (g := gb446) (o := .cells #[.slice A0_0 l0_0.length c0_0] 24 (0, 0)) (by (with_reducible repeat (first | refine blk_drewN ?_ _ | refine blk_drew ?_ | refine blk_alloc ?_ _)); exact BK446.out) hb)
                        have n7_ := Aside0.mk (blk_below (g := gb452) (o := .cells #[.slice Ao25 t448.length co25] 24 (0, 0)) (by (with_reducible repeat (first | refine blk_drewN ?_ _ | refine blk_drew ?_ | refine blk_alloc ?_ _)); exact BK452.out) hb)
                        have n8_ := Aside0.mk (blk_below (g := gb457) (o := .cells #[.slice Ao31 t453.length co31] 24 (0, 0)) (by (with_reducible repeat (first | refine blk_drewN ?_ _ | refine blk_drew ?_ | refine blk_alloc ?_ _)); exact BK457.out) hb)
                        have n9_ := Aside0.mk (blk_below (g := gb462) (o := .cells #[.slice Ao46 t458.length co46] 24 (0, 0)) (by (with_reducible repeat (first | refine blk_drewN ?_ _ | refine blk_drew ?_ | refine blk_alloc ?_ _)); exact BK462.out) hb)
                        have n10_ := Aside0.mk (blk_below (g := gb467) (o := .cells #[.slice Ao55 t463.length co55] 24 (0, 0)) (by (with_reducible repeat (first | refine blk_drewN ?_ _ | refine blk_drew ?_ | refine blk_alloc ?_ _)); exact BK467.out) hb)
                        have n11_ := Aside0.mk (blk_below (g := gb472) (o := .cells #[.slice Ao64 t468.length co64] 24 (0, 0)) (by (with_reducible repeat (first | refine blk_drewN ?_ _ | refine blk_drew ?_ | refine blk_alloc ?_ _)); exact BK472.out) hb)
                        have n12_ := Aside0.mk (below_step (by repeat (first | (with_reducible first | exact HB.out | apply below_alloc | apply pw_below_drewN | apply below_drew1 | refine below_set ?_ GE446.out | refine below_set ?_ GE452.out | refine below_set ?_ GE457.out | refine below_set ?_ GE462.out | refine below_set ?_ GE467.out | refine below_set ?_ GE472.out) | exact HB.out)) hb)
                        clear HO_453000
                        clear HO_458000
                        clear HO_463000
                        clear HO_468000
                        clear HO_473000
                        clear BK446
                        clear BK452
                        clear BK457
                        clear BK462
                        clear BK467
                        clear BK472
                        clear HB
                        have HO_453000 := n0_
                        have HO_458000 := n1_
                        have HO_463000 := n2_
                        have HO_468000 := n3_
                        have HO_473000 := n4_
                        have HO475 := n5_
                        have BK446 := n6_
                        have BK452 := n7_
                        have BK457 := n8_
                        have BK462 := n9_
                        have BK467 := n10_
                        have BK472 := n11_
                        have HB := n12_
                        clear n0_ n1_ n2_ n3_ n4_ n5_ n6_ n7_ n8_ n9_ n10_ n11_ n12_
                        (try clear hb)
                        (try clear hb2)
                        (try clear hk)
                        (try clear hi)
                        (try clear ho0)
                        refine hK.out _ _ ⟨(blk_cell BK462.out 0).trans rfl, (blk_cell BK467.out 0).trans rfl, (blk_cell BK472.out 0).trans rfl, (blk_cell BK446.out 0).trans rfl⟩ (fun hHeld => ?_)
                        clear hK K
                        refine norm_ (a' := ?_) ?_ ?_
                        rotate_left
                        · show Act.put _ (some 98) _ = _
                          simp only [Act.put, List.setIfInBounds_toArray, List.set_cons_zero, List.set_cons_succ, i64_w, i32_w]
                          rfl
                        refine one_ (i := 3) (N := some 100) #[true, true, true, true, false, false, false, false, false, false, false, false, false, false, false] rfl rfl (one_of HT_.out (by kernel_rfl)) (by decide) (fun K hK => ?_)
                        refine goes_ Tryd.func22 (by kernel_rfl) rfl #[.agg #[.slice Ao55 t463.length co55]] (by rfl) rfl rfl (by (try simp only [List.map_toArray, List.map_cons, List.map_nil]); first | done | rfl | (simp only [List.length_drop, List.length_take]; rfl)) ?_
                        with_reducible refine (trie_Entries.calls kj39 _ _ t463 t476 _ ?side1 ?side2 A76.out).mono ?_
                        (case side1 => repeat (first | exact (Kd.R_reads' HO_468000.out).2.2 | (with_reducible refine Kd.C_alloc ?_ _) | (with_reducible refine Kd.C_drewN ?_ _) | (with_reducible refine Kd.C_drew ?_)))
                        (case side2 => exact (Kd.R_reads' HO_468000.out).2.1)
                        rintro e w85 ⟨v477, rfl, ho0, hb⟩
                        refine ⟨_, rfl, ?_⟩
                        have n0_ := Aside0.mk (Kd.R_below (by (with_reducible repeat (first | apply Kd.R_alloc | apply Kd.R_drewN | apply Kd.R_drew)); exact HO_453000.out) hb)
                        have n1_ := Aside0.mk (Kd.R_below (by (with_reducible repeat (first | apply Kd.R_alloc | apply Kd.R_drewN | apply Kd.R_drew)); exact HO_458000.out) hb)
                        have n2_ := Aside0.mk (Kd.R_below (by (with_reducible repeat (first | apply Kd.R_alloc | apply Kd.R_drewN | apply Kd.R_drew)); exact HO_463000.out) hb)
                        have n3_ := Aside0.mk (Kd.R_below (by (with_reducible repeat (first | apply Kd.R_alloc | apply Kd.R_drewN | apply Kd.R_drew)); exact HO_468000.out) hb)
                        have n4_ := Aside0.mk (Kd.R_below (by (with_reducible repeat (first | apply Kd.R_alloc | apply Kd.R_drewN | apply Kd.R_drew)); exact HO_473000.out) hb)
                        have n5_ := Aside0.mk (Kd.R_elder' (by (with_reducible repeat (first | apply Kd.R_alloc | apply Kd.R_drewN | apply Kd.R_drew)); exact HO475.out) (Kd.R_base ho0) hb)
                        have n6_ := Aside0.mk (Kd.R_lower (Kd.R_new' ho0 (Kd.R_lt (by (with_reducible repeat (first | apply Kd.R_alloc | apply Kd.R_drewN | apply Kd.R_drew)); exact HO475.out))) (below_size (by repeat (first | (with_reducible first | exact HB.out | apply below_alloc | apply pw_below_drewN | apply below_drew1 | refine below_set ?_ GE446.out | refine below_set ?_ GE452.out | refine below_set ?_ GE457.out | refine below_set ?_ GE462.out | refine below_set ?_ GE467.out | refine below_set ?_ GE472.out) | exact HB.out))))
                        have n7_ := Aside0.mk (blk_below (g := gb446) (o := .cells #[.slice A0_0 l0_0.length c0_0] 24 (0, 0)) (by (with_reducible repeat (first | refine blk_drewN ?_ _ | refine blk_drew ?_ | refine blk_alloc ?_ _)); exact BK446.out) hb)
                        have n8_ := Aside0.mk (blk_below (g := gb452) (o := .cells #[.slice Ao25 t448.length co25] 24 (0, 0)) (by (with_reducible repeat (first | refine blk_drewN ?_ _ | refine blk_drew ?_ | refine blk_alloc ?_ _)); exact BK452.out) hb)
                        have n9_ := Aside0.mk (blk_below (g := gb457) (o := .cells #[.slice Ao31 t453.length co31] 24 (0, 0)) (by (with_reducible repeat (first | refine blk_drewN ?_ _ | refine blk_drew ?_ | refine blk_alloc ?_ _)); exact BK457.out) hb)
                        have n10_ := Aside0.mk (blk_below (g := gb462) (o := .cells #[.slice Ao46 t458.length co46] 24 (0, 0)) (by (with_reducible repeat (first | refine blk_drewN ?_ _ | refine blk_drew ?_ | refine blk_alloc ?_ _)); exact BK462.out) hb)
                        have n11_ := Aside0.mk (blk_below (g := gb467) (o := .cells #[.slice Ao55 t463.length co55] 24 (0, 0)) (by (with_reducible repeat (first | refine blk_drewN ?_ _ | refine blk_drew ?_ | refine blk_alloc ?_ _)); exact BK467.out) hb)
                        have n12_ := Aside0.mk (blk_below (g := gb472) (o := .cells #[.slice Ao64 t468.length co64] 24 (0, 0)) (by (with_reducible repeat (first | refine blk_drewN ?_ _ | refine blk_drew ?_ | refine blk_alloc ?_ _)); exact BK472.out) hb)
                        have n13_ := Aside0.mk (below_step (by repeat (first | (with_reducible first | exact HB.out | apply below_alloc | apply pw_below_drewN | apply below_drew1 | refine below_set ?_ GE446.out | refine below_set ?_ GE452.out | refine below_set ?_ GE457.out | refine below_set ?_ GE462.out | refine below_set ?_ GE467.out | refine below_set ?_ GE472.out) | exact HB.out)) hb)
                        clear HO_453000
                        clear HO_458000
                        clear HO_463000
                        clear HO_468000
                        clear HO_473000
                        clear HO475
                        clear BK446
                        clear BK452
                        clear BK457
                        clear BK462
                        clear BK467
                        clear BK472
                        clear HB
                        have HO_453000 := n0_
                        have HO_458000 := n1_
                        have HO_463000 := n2_
                        have HO_468000 := n3_
                        have HO_473000 := n4_
                        have HO475 := n5_
                        have HO478 := n6_
                        have BK446 := n7_
                        have BK452 := n8_
                        have BK457 := n9_
                        have BK462 := n10_
                        have BK467 := n11_
                        have BK472 := n12_
                        have HB := n13_
                        clear n0_ n1_ n2_ n3_ n4_ n5_ n6_ n7_ n8_ n9_ n10_ n11_ n12_ n13_
                        (try clear hb)
                        (try clear hb2)
                        (try clear hk)
                        (try clear hi)
                        (try clear ho0)
                        obtain ⟨Ao86, co86, eo86⟩ := Kd.R_slice HO475.out
                        (first | subst eo86 | (injection eo86 with f1_ f2_ f3_; have f4_ := f1_.symm; have f5_ := f3_.symm; clear f1_ f2_ f3_; subst f4_; subst f5_))
                        obtain ⟨Ao87, co87, eo87⟩ := Kd.R_slice HO478.out
                        (first | subst eo87 | (injection eo87 with f1_ f2_ f3_; have f4_ := f1_.symm; have f5_ := f3_.symm; clear f1_ f2_ f3_; subst f4_; subst f5_))
                        refine hK.out _ _ ⟨(blk_cell BK462.out 0).trans rfl, (blk_cell BK467.out 0).trans rfl, (blk_cell BK472.out 0).trans rfl, (blk_cell BK446.out 0).trans rfl⟩ (fun hHeld => ?_)
                        clear hK K
                        refine norm_ (a' := ?_) ?_ ?_
                        rotate_left
                        · show Act.put _ (some 100) _ = _
                          simp only [Act.put, List.setIfInBounds_toArray, List.set_cons_zero, List.set_cons_succ, i64_w, i32_w]
                          rfl
                        refine one_ (i := 4) (N := some 101) #[true, true, true, true, true, false, false, false, false, false, false, false, false, false, false] rfl rfl (one_of HT_.out (by kernel_rfl)) (by decide) (fun K hK => ?_)
                        refine goes_ Tryd.func21 (by kernel_rfl) rfl #[.slice Ao86 t473.length co86, .slice Ao87 t476.length co87] (by rfl) rfl rfl (by (try simp only [List.map_toArray, List.map_cons, List.map_nil]); first | done | rfl | (simp only [List.length_drop, List.length_take]; rfl)) ?_
                        with_reducible refine (crossbarref07_SameEntries.calls kj39 _ _ t473 _ _ t476 true _ ?side1 ?side2 ?side3 ?side4 A77.out).mono ?_
                        (case side1 => repeat (first | exact (Kd.R_reads' HO475.out).2.2 | (with_reducible refine Kd.C_alloc ?_ _) | (with_reducible refine Kd.C_drewN ?_ _) | (with_reducible refine Kd.C_drew ?_)))
                        (case side2 => exact (Kd.R_reads' HO475.out).2.1)
                        (case side3 => repeat (first | exact (Kd.R_reads' HO478.out).2.2 | (with_reducible refine Kd.C_alloc ?_ _) | (with_reducible refine Kd.C_drewN ?_ _) | (with_reducible refine Kd.C_drew ?_)))
                        (case side4 => exact (Kd.R_reads' HO478.out).2.1)
                        rintro e w' ⟨rfl, ⟨nd, rfl⟩⟩
                        refine ⟨_, rfl, ?_⟩
                        refine hK.out _ _ ⟨(blk_cell BK462.out 0).trans rfl, (blk_cell BK467.out 0).trans rfl, (blk_cell BK472.out 0).trans rfl, (blk_cell BK446.out 0).trans rfl⟩ (fun hHeld => ?_)
                        clear hK K
                        refine norm_ (a' := ?_) ?_ ?_
                        rotate_left
                        · show Act.put _ (some 101) _ = _
                          simp only [Act.put, List.setIfInBounds_toArray, List.set_cons_zero, List.set_cons_succ, i64_w, i32_w]
                          rfl
                        refine pure_ (i := 5) (N := some 102) (v := ?_) (a' := ?_) #[true, true, true, true, true, true, false, false, false, false, false, false, false, false, false] rfl rfl (any_of HT_.out (by kernel_rfl)) (fun _ _ _ h => h) (Or.inl ⟨by rfl, ?_⟩) ?_ ?_
                        rotate_left
                        · intro w'
                          go_simp
                          with_reducible rfl
                        rotate_left
                        · simp only [Act.put, List.setIfInBounds_toArray, List.set_cons_zero, List.set_cons_succ, i64_w, i32_w]
                          rfl
                        refine pure_ (i := 10) (N := some 107) (v := ?_) (a' := ?_) #[true, true, true, true, true, true, false, false, false, false, true, false, false, false, false] rfl rfl (any_of HT_.out (by kernel_rfl)) (fun _ _ _ h => h) (Or.inl ⟨by rfl, ?_⟩) ?_ ?_
                        rotate_left
                        · intro w'
                          go_simp
                          with_reducible rfl
                        rotate_left
                        · simp only [Act.put, List.setIfInBounds_toArray, List.set_cons_zero, List.set_cons_succ, i64_w, i32_w]
                          rfl
                        refine take_ (i := 6) (N := some 103) (v := ?_) (a' := ?_) #[true, true, true, true, true, true, true, false, false, false, true, false, false, false, false] rfl rfl (take_ofW HT_.out HW_.out (by kernel_rfl)) (fun _ _ _ h => h) (Or.inl ⟨by rfl, ?_⟩) hHeld ?_ ?_
                        rotate_left
                        · rintro w' ⟨s0, s1, s2, s3⟩
                          go_simp
                          with_reducible rfl
                        rotate_left
                        · simp only [Act.put, List.setIfInBounds_toArray, List.set_cons_zero, List.set_cons_succ, i64_w, i32_w]
                          rfl
                        refine take_ (i := 8) (N := some 105) (v := ?_) (a' := ?_) #[true, true, true, true, true, true, true, false, true, false, true, false, false, false, false] rfl rfl (take_ofW HT_.out HW_.out (by kernel_rfl)) (fun _ _ _ h => h) (Or.inl ⟨by rfl, ?_⟩) hHeld ?_ ?_
                        rotate_left
                        · rintro w' ⟨s0, s1, s2, s3⟩
                          go_simp
                          with_reducible rfl
                        rotate_left
                        · simp only [Act.put, List.setIfInBounds_toArray, List.set_cons_zero, List.set_cons_succ, i64_w, i32_w]
                          rfl
                        refine one_ (i := 7) (N := some 104) #[true, true, true, true, true, true, true, true, true, false, true, false, false, false, false] rfl rfl (one_of HT_.out (by kernel_rfl)) (by decide) (fun K hK => ?_)
                        refine goes_ Tryd.func22 (by kernel_rfl) rfl #[.agg #[.slice Ao64 t468.length co64]] (by rfl) rfl rfl (by (try simp only [List.map_toArray, List.map_cons, List.map_nil]); first | done | rfl | (simp only [List.length_drop, List.length_take]; rfl)) ?_
                        with_reducible refine (trie_Entries.calls kj39 _ _ t468 t480 _ ?side1 ?side2 A79.out).mono ?_
                        (case side1 => repeat (first | exact (Kd.R_reads' HO_473000.out).2.2 | (with_reducible refine Kd.C_alloc ?_ _) | (with_reducible refine Kd.C_drewN ?_ _) | (with_reducible refine Kd.C_drew ?_)))
                        (case side2 => exact (Kd.R_reads' HO_473000.out).2.1)
                        rintro e w88 ⟨v481, rfl, ho0, hb⟩
                        refine ⟨_, rfl, ?_⟩
                        have n0_ := Aside0.mk (Kd.R_below (by (with_reducible repeat (first | apply Kd.R_alloc | apply Kd.R_drewN | apply Kd.R_drew)); exact HO_453000.out) hb)
                        have n1_ := Aside0.mk (Kd.R_below (by (with_reducible repeat (first | apply Kd.R_alloc | apply Kd.R_drewN | apply Kd.R_drew)); exact HO_458000.out) hb)
                        have n2_ := Aside0.mk (Kd.R_below (by (with_reducible repeat (first | apply Kd.R_alloc | apply Kd.R_drewN | apply Kd.R_drew)); exact HO_463000.out) hb)
                        have n3_ := Aside0.mk (Kd.R_below (by (with_reducible repeat (first | apply Kd.R_alloc | apply Kd.R_drewN | apply Kd.R_drew)); exact HO_468000.out) hb)
                        have n4_ := Aside0.mk (Kd.R_below (by (with_reducible repeat (first | apply Kd.R_alloc | apply Kd.R_drewN | apply Kd.R_drew)); exact HO_473000.out) hb)
                        have n5_ := Aside0.mk (Kd.R_elder' (by (with_reducible repeat (first | apply Kd.R_alloc | apply Kd.R_drewN | apply Kd.R_drew)); exact HO475.out) (Kd.R_base ho0) hb)
                        have n6_ := Aside0.mk (Kd.R_elder' (by (with_reducible repeat (first | apply Kd.R_alloc | apply Kd.R_drewN | apply Kd.R_drew)); exact HO478.out) (Kd.R_base ho0) hb)
                        have n7_ := Aside0.mk (Kd.R_lower (Kd.R_new' (Kd.R_new' ho0 (Kd.R_lt (by (with_reducible repeat (first | apply Kd.R_alloc | apply Kd.R_drewN | apply Kd.R_drew)); exact HO475.out))) (Kd.R_lt (by (with_reducible repeat (first | apply Kd.R_alloc | apply Kd.R_drewN | apply Kd.R_drew)); exact HO478.out))) (below_size (by repeat (first | (with_reducible first | exact HB.out | apply below_alloc | apply pw_below_drewN | apply below_drew1 | refine below_set ?_ GE446.out | refine below_set ?_ GE452.out | refine below_set ?_ GE457.out | refine below_set ?_ GE462.out | refine below_set ?_ GE467.out | refine below_set ?_ GE472.out) | exact HB.out))))
                        have n8_ := Aside0.mk (blk_below (g := gb446) (o := .cells #[.slice A0_0 l0_0.length c0_0] 24 (0, 0)) (by (with_reducible repeat (first | refine blk_drewN ?_ _ | refine blk_drew ?_ | refine blk_alloc ?_ _)); exact BK446.out) hb)
                        have n9_ := Aside0.mk (blk_below (g := gb452) (o := .cells #[.slice Ao25 t448.length co25] 24 (0, 0)) (by (with_reducible repeat (first | refine blk_drewN ?_ _ | refine blk_drew ?_ | refine blk_alloc ?_ _)); exact BK452.out) hb)
                        have n10_ := Aside0.mk (blk_below (g := gb457) (o := .cells #[.slice Ao31 t453.length co31] 24 (0, 0)) (by (with_reducible repeat (first | refine blk_drewN ?_ _ | refine blk_drew ?_ | refine blk_alloc ?_ _)); exact BK457.out) hb)
                        have n11_ := Aside0.mk (blk_below (g := gb462) (o := .cells #[.slice Ao46 t458.length co46] 24 (0, 0)) (by (with_reducible repeat (first | refine blk_drewN ?_ _ | refine blk_drew ?_ | refine blk_alloc ?_ _)); exact BK462.out) hb)
                        have n12_ := Aside0.mk (blk_below (g := gb467) (o := .cells #[.slice Ao55 t463.length co55] 24 (0, 0)) (by (with_reducible repeat (first | refine blk_drewN ?_ _ | refine blk_drew ?_ | refine blk_alloc ?_ _)); exact BK467.out) hb)
                        have n13_ := Aside0.mk (blk_below (g := gb472) (o := .cells #[.slice Ao64 t468.length co64] 24 (0, 0)) (by (with_reducible repeat (first | refine blk_drewN ?_ _ | refine blk_drew ?_ | refine blk_alloc ?_ _)); exact BK472.out) hb)
                        have n14_ := Aside0.mk (below_step (by repeat (first | (with_reducible first | exact HB.out | apply below_alloc | apply pw_below_drewN | apply below_drew1 | refine below_set ?_ GE446.out | refine below_set ?_ GE452.out | refine below_set ?_ GE457.out | refine below_set ?_ GE462.out | refine below_set ?_ GE467.out | refine below_set ?_ GE472.out) | exact HB.out)) hb)
                        clear HO_453000
                        clear HO_458000
                        clear HO_463000
                        clear HO_468000
                        clear HO_473000
                        clear HO475
                        clear HO478
                        clear BK446
                        clear BK452
                        clear BK457
                        clear BK462
                        clear BK467
                        clear BK472
                        clear HB
                        have HO_453000 := n0_
                        have HO_458000 := n1_
                        have HO_463000 := n2_
                        have HO_468000 := n3_
                        have HO_473000 := n4_
                        have HO475 := n5_
                        have HO478 := n6_
                        have HO482 := n7_
                        have BK446 := n8_
                        have BK452 := n9_
                        have BK457 := n10_
                        have BK462 := n11_
                        have BK467 := n12_
                        have BK472 := n13_
                        have HB := n14_
                        clear n0_ n1_ n2_ n3_ n4_ n5_ n6_ n7_ n8_ n9_ n10_ n11_ n12_ n13_ n14_
                        (try clear hb)
                        (try clear hb2)
                        (try clear hk)
                        (try clear hi)
                        (try clear ho0)
                        refine hK.out _ _ ⟨(blk_cell BK462.out 0).trans rfl, (blk_cell BK467.out 0).trans rfl, (blk_cell BK472.out 0).trans rfl, (blk_cell BK446.out 0).trans rfl⟩ (fun hHeld => ?_)
                        clear hK K
                        refine norm_ (a' := ?_) ?_ ?_
                        rotate_left
                        · show Act.put _ (some 104) _ = _
                          simp only [Act.put, List.setIfInBounds_toArray, List.set_cons_zero, List.set_cons_succ, i64_w, i32_w]
                          rfl
                        refine one_ (i := 9) (N := some 106) #[true, true, true, true, true, true, true, true, true, true, true, false, false, false, false] rfl rfl (one_of HT_.out (by kernel_rfl)) (by decide) (fun K hK => ?_)
                        refine goes_ Tryd.func22 (by kernel_rfl) rfl #[.agg #[.slice A0_0 l0_0.length c0_0]] (by rfl) rfl rfl (by (try simp only [List.map_toArray, List.map_cons, List.map_nil]); first | done | rfl | (simp only [List.length_drop, List.length_take]; rfl)) ?_
                        with_reducible refine (trie_Entries.calls kj39 _ _ l0_0 t483 _ ?side1 ?side2 A80.out).mono ?_
                        (case side1 => repeat (first | exact (Kd.C_below HR0_0.out HB.out) | (with_reducible refine Kd.C_alloc ?_ _) | (with_reducible refine Kd.C_drewN ?_ _) | (with_reducible refine Kd.C_drew ?_)))
                        (case side2 => exact HC0_0.out)
                        rintro e w89 ⟨v484, rfl, ho0, hb⟩
                        refine ⟨_, rfl, ?_⟩
                        have n0_ := Aside0.mk (Kd.R_below (by (with_reducible repeat (first | apply Kd.R_alloc | apply Kd.R_drewN | apply Kd.R_drew)); exact HO_453000.out) hb)
                        have n1_ := Aside0.mk (Kd.R_below (by (with_reducible repeat (first | apply Kd.R_alloc | apply Kd.R_drewN | apply Kd.R_drew)); exact HO_458000.out) hb)
                        have n2_ := Aside0.mk (Kd.R_below (by (with_reducible repeat (first | apply Kd.R_alloc | apply Kd.R_drewN | apply Kd.R_drew)); exact HO_463000.out) hb)
                        have n3_ := Aside0.mk (Kd.R_below (by (with_reducible repeat (first | apply Kd.R_alloc | apply Kd.R_drewN | apply Kd.R_drew)); exact HO_468000.out) hb)
                        have n4_ := Aside0.mk (Kd.R_below (by (with_reducible repeat (first | apply Kd.R_alloc | apply Kd.R_drewN | apply Kd.R_drew)); exact HO_473000.out) hb)
                        have n5_ := Aside0.mk (Kd.R_elder' (by (with_reducible repeat (first | apply Kd.R_alloc | apply Kd.R_drewN | apply Kd.R_drew)); exact HO475.out) (Kd.R_base ho0) hb)
                        have n6_ := Aside0.mk (Kd.R_elder' (by (with_reducible repeat (first | apply Kd.R_alloc | apply Kd.R_drewN | apply Kd.R_drew)); exact HO478.out) (Kd.R_base ho0) hb)
                        have n7_ := Aside0.mk (Kd.R_elder' (by (with_reducible repeat (first | apply Kd.R_alloc | apply Kd.R_drewN | apply Kd.R_drew)); exact HO482.out) (Kd.R_base ho0) hb)
                        have n8_ := Aside0.mk (Kd.R_lower (Kd.R_new' (Kd.R_new' (Kd.R_new' ho0 (Kd.R_lt (by (with_reducible repeat (first | apply Kd.R_alloc | apply Kd.R_drewN | apply Kd.R_drew)); exact HO475.out))) (Kd.R_lt (by (with_reducible repeat (first | apply Kd.R_alloc | apply Kd.R_drewN | apply Kd.R_drew)); exact HO478.out))) (Kd.R_lt (by (with_reducible repeat (first | apply Kd.R_alloc | apply Kd.R_drewN | apply Kd.R_drew)); exact HO482.out))) (below_size (by repeat (first | (with_reducible first | exact HB.out | apply below_alloc | apply pw_below_drewN | apply below_drew1 | refine below_set ?_ GE446.out | refine below_set ?_ GE452.out | refine below_set ?_ GE457.out | refine below_set ?_ GE462.out | refine below_set ?_ GE467.out | refine below_set ?_ GE472.out) | exact HB.out))))
                        have n9_ := Aside0.mk (blk_below (g := gb446) (o := .cells #[.slice A0_0 l0_0.length c0_0] 24 (0, 0)) (by (with_reducible repeat (first | refine blk_drewN ?_ _ | refine blk_drew ?_ | refine blk_alloc ?_ _)); exact BK446.out) hb)
                        have n10_ := Aside0.mk (blk_below (g := gb452) (o := .cells #[.slice Ao25 t448.length co25] 24 (0, 0)) (by (with_reducible repeat (first | refine blk_drewN ?_ _ | refine blk_drew ?_ | refine blk_alloc ?_ _)); exact BK452.out) hb)
                        have n11_ := Aside0.mk (blk_below (g := gb457) (o := .cells #[.slice Ao31 t453.length co31] 24 (0, 0)) (by (with_reducible repeat (first | refine blk_drewN ?_ _ | refine blk_drew ?_ | refine blk_alloc ?_ _)); exact BK457.out) hb)
                        have n12_ := Aside0.mk (blk_below (g := gb462) (o := .cells #[.slice Ao46 t458.length co46] 24 (0, 0)) (by (with_reducible repeat (first | refine blk_drewN ?_ _ | refine blk_drew ?_ | refine blk_alloc ?_ _)); exact BK462.out) hb)
                        have n13_ := Aside0.mk (blk_below (g := gb467) (o := .cells #[.slice Ao55 t463.length co55] 24 (0, 0)) (by (with_reducible repeat (first | refine blk_drewN ?_ _ | refine blk_drew ?_ | refine blk_alloc ?_ _)); exact BK467.out) hb)
                        have n14_ := Aside0.mk (blk_below (g := gb472) (o := .cells #[.slice Ao64 t468.length co64] 24 (0, 0)) (by (with_reducible repeat (first | refine blk_drewN ?_ _ | refine blk_drew ?_ | refine blk_alloc ?_ _)); exact BK472.out) hb)
                        have n15_ := Aside0.mk (below_step (by repeat (first | (with_reducible first | exact HB.out | apply below_alloc | apply pw_below_drewN | apply below_drew1 | refine below_set ?_ GE446.out | refine below_set ?_ GE452.out | refine below_set ?_ GE457.out | refine below_set ?_ GE462.out | refine below_set ?_ GE467.out | refine below_set ?_ GE472.out) | exact HB.out)) hb)
                        clear HO_453000
                        clear HO_458000
                        clear HO_463000
                        clear HO_468000
                        clear HO_473000
                        clear HO475
                        clear HO478
                        clear HO482
                        clear BK446
                        clear BK452
                        clear BK457
                        clear BK462
                        clear BK467
                        clear BK472
                        clear HB
                        have HO_453000 := n0_
                        have HO_458000 := n1_
                        have HO_463000 := n2_
                        have HO_468000 := n3_
                        have HO_473000 := n4_
                        have HO475 := n5_
                        have HO478 := n6_
                        have HO482 := n7_
                        have HO485 := n8_
                        have BK446 := n9_
                        have BK452 := n10_
                        have BK457 := n11_
                        have BK462 := n12_
                        have BK467 := n13_
                        have BK472 := n14_
                        have HB := n15_
                        clear n0_ n1_ n2_ n3_ n4_ n5_ n6_ n7_ n8_ n9_ n10_ n11_ n12_ n13_ n14_ n15_
                        (try clear hb)
                        (try clear hb2)
                        (try clear hk)
                        (try clear hi)
                        (try clear ho0)
                        obtain ⟨Ao90, co90, eo90⟩ := Kd.R_slice HO485.out
                        (first | subst eo90 | (injection eo90 with f1_ f2_ f3_; have f4_ := f1_.symm; have f5_ := f3_.symm; clear f1_ f2_ f3_; subst f4_; subst f5_))
                        refine hK.out _ _ ⟨(blk_cell BK462.out 0).trans rfl, (blk_cell BK467.out 0).trans rfl, (blk_cell BK472.out 0).trans rfl, (blk_cell BK446.out 0).trans rfl⟩ (fun hHeld => ?_)
                        clear hK K
                        refine norm_ (a' := ?_) ?_ ?_
                        rotate_left
                        · show Act.put _ (some 106) _ = _
                          simp only [Act.put, List.setIfInBounds_toArray, List.set_cons_zero, List.set_cons_succ, i64_w, i32_w]
                          rfl
                        refine one_ (i := 11) (N := some 108) #[true, true, true, true, true, true, true, true, true, true, true, true, false, false, false] rfl rfl (one_of HT_.out (by kernel_rfl)) (by decide) (fun K hK => ?_)
                        refine goes_ Tryd.func36 (by kernel_rfl) rfl #[.slice Ao90 t483.length co90, .string a1] (by rfl) rfl rfl (by (try simp only [List.map_toArray, List.map_cons, List.map_nil]); first | done | rfl | (simp only [List.length_drop, List.length_take]; rfl)) ?_
                        with_reducible refine (crossbarlaw07_without.calls kj39 _ _ t483 a1 t486 _ ?side1 ?side2 A81.out).mono ?_
                        (case side1 => repeat (first | exact (Kd.R_reads' HO485.out).2.2 | (with_reducible refine Kd.C_alloc ?_ _) | (with_reducible refine Kd.C_drewN ?_ _) | (with_reducible refine Kd.C_drew ?_)))
                        (case side2 => exact (Kd.R_reads' HO485.out).2.1)
                        rintro e w91 ⟨v487, rfl, ho0, hb⟩
                        refine ⟨_, rfl, ?_⟩
                        have n0_ := Aside0.mk (Kd.R_below (by (with_reducible repeat (first | apply Kd.R_alloc | apply Kd.R_drewN | apply Kd.R_drew)); exact HO_453000.out) hb)
                        have n1_ := Aside0.mk (Kd.R_below (by (with_reducible repeat (first | apply Kd.R_alloc | apply Kd.R_drewN | apply Kd.R_drew)); exact HO_458000.out) hb)
                        have n2_ := Aside0.mk (Kd.R_below (by (with_reducible repeat (first | apply Kd.R_alloc | apply Kd.R_drewN | apply Kd.R_drew)); exact HO_463000.out) hb)
                        have n3_ := Aside0.mk (Kd.R_below (by (with_reducible repeat (first | apply Kd.R_alloc | apply Kd.R_drewN | apply Kd.R_drew)); exact HO_468000.out) hb)
                        have n4_ := Aside0.mk (Kd.R_below (by (with_reducible repeat (first | apply Kd.R_alloc | apply Kd.R_drewN | apply Kd.R_drew)); exact HO_473000.out) hb)
                        have n5_ := Aside0.mk (Kd.R_elder' (by (with_reducible repeat (first | apply Kd.R_alloc | apply Kd.R_drewN | apply Kd.R_drew)); exact HO475.out) (Kd.R_base ho0) hb)
                        have n6_ := Aside0.mk (Kd.R_elder' (by (with_reducible repeat (first | apply Kd.R_alloc | apply Kd.R_drewN | apply Kd.R_drew)); exact HO478.out) (Kd.R_base ho0) hb)
                        have n7_ := Aside0.mk (Kd.R_elder' (by (with_reducible repeat (first | apply Kd.R_alloc | apply Kd.R_drewN | apply Kd.R_drew)); exact HO482.out) (Kd.R_base ho0) hb)
                        have n8_ := Aside0.mk (Kd.R_elder' (by (with_reducible repeat (first | apply Kd.R_alloc | apply Kd.R_drewN | apply Kd.R_drew)); exact HO485.out) (Kd.R_base ho0) hb)
                        have n9_ := Aside0.mk (Kd.R_lower (Kd.R_new' (Kd.R_new' (Kd.R_new' (Kd.R_new' ho0 (Kd.R_lt (by (with_reducible repeat (first | apply Kd.R_alloc | apply Kd.R_drewN | apply Kd.R_drew)); exact HO475.out))) (Kd.R_lt (by (with_reducible repeat (first | apply Kd.R_alloc | apply Kd.R_drewN | apply Kd.R_drew)); exact HO478.out))) (Kd.R_lt (by (with_reducible repeat (first | apply Kd.R_alloc | apply Kd.R_drewN | apply Kd.R_drew)); exact HO482.out))) (Kd.R_lt (by (with_reducible repeat (first | apply Kd.R_alloc | apply Kd.R_drewN | apply Kd.R_drew)); exact HO485.out))) (below_size (by repeat (first | (with_reducible first | exact HB.out | apply below_alloc | apply pw_below_drewN | apply below_drew1 | refine below_set ?_ GE446.out | refine below_set ?_ GE452.out | refine below_set ?_ GE457.out | refine below_set ?_ GE462.out | refine below_set ?_ GE467.out | refine below_set ?_ GE472.out) | exact HB.out))))
                        have n10_ := Aside0.mk (blk_below (g := gb446) (o := .cells #[.slice A0_0 l0_0.length c0_0] 24 (0, 0)) (by (with_reducible repeat (first | refine blk_drewN ?_ _ | refine blk_drew ?_ | refine blk_alloc ?_ _)); exact BK446.out) hb)
                        have n11_ := Aside0.mk (blk_below (g := gb452) (o := .cells #[.slice Ao25 t448.length co25] 24 (0, 0)) (by (with_reducible repeat (first | refine blk_drewN ?_ _ | refine blk_drew ?_ | refine blk_alloc ?_ _)); exact BK452.out) hb)
                        have n12_ := Aside0.mk (blk_below (g := gb457) (o := .cells #[.slice Ao31 t453.length co31] 24 (0, 0)) (by (with_reducible repeat (first | refine blk_drewN ?_ _ | refine blk_drew ?_ | refine blk_alloc ?_ _)); exact BK457.out) hb)
                        have n13_ := Aside0.mk (blk_below (g := gb462) (o := .cells #[.slice Ao46 t458.length co46] 24 (0, 0)) (by (with_reducible repeat (first | refine blk_drewN ?_ _ | refine blk_drew ?_ | refine blk_alloc ?_ _)); exact BK462.out) hb)
                        have n14_ := Aside0.mk (blk_below (g := gb467) (o := .cells #[.slice Ao55 t463.length co55] 24 (0, 0)) (by (with_reducible repeat (first | refine blk_drewN ?_ _ | refine blk_drew ?_ | refine blk_alloc ?_ _)); exact BK467.out) hb)
                        have n15_ := Aside0.mk (blk_below (g := gb472) (o := .cells #[.slice Ao64 t468.length co64] 24 (0, 0)) (by (with_reducible repeat (first | refine blk_drewN ?_ _ | refine blk_drew ?_ | refine blk_alloc ?_ _)); exact BK472.out) hb)
                        have n16_ := Aside0.mk (below_step (by repeat (first | (with_reducible first | exact HB.out | apply below_alloc | apply pw_below_drewN | apply below_drew1 | refine below_set ?_ GE446.out | refine below_set ?_ GE452.out | refine below_set ?_ GE457.out | refine below_set ?_ GE462.out | refine below_set ?_ GE467.out | refine below_set ?_ GE472.out) | exact HB.out)) hb)
                        clear HO_453000
                        clear HO_458000
                        clear HO_463000
                        clear HO_468000
                        clear HO_473000
                        clear HO475
                        clear HO478
                        clear HO482
                        clear HO485
                        clear BK446
                        clear BK452
                        clear BK457
                        clear BK462
                        clear BK467
                        clear BK472
                        clear HB
                        have HO_453000 := n0_
                        have HO_458000 := n1_
                        have HO_463000 := n2_
                        have HO_468000 := n3_
                        have HO_473000 := n4_
                        have HO475 := n5_
                        have HO478 := n6_
                        have HO482 := n7_
                        have HO485 := n8_
                        have HO488 := n9_
                        have BK446 := n10_
                        have BK452 := n11_
                        have BK457 := n12_
                        have BK462 := n13_
                        have BK467 := n14_
                        have BK472 := n15_
                        have HB := n16_
                        clear n0_ n1_ n2_ n3_ n4_ n5_ n6_ n7_ n8_ n9_ n10_ n11_ n12_ n13_ n14_ n15_ n16_
                        (try clear hb)
                        (try clear hb2)
                        (try clear hk)
                        (try clear hi)
                        (try clear ho0)
                        obtain ⟨Ao92, co92, eo92⟩ := Kd.R_slice HO482.out
                        (first | subst eo92 | (injection eo92 with f1_ f2_ f3_; have f4_ := f1_.symm; have f5_ := f3_.symm; clear f1_ f2_ f3_; subst f4_; subst f5_))
                        obtain ⟨Ao93, co93, eo93⟩ := Kd.R_slice HO488.out
                        (first | subst eo93 | (injection eo93 with f1_ f2_ f3_; have f4_ := f1_.symm; have f5_ := f3_.symm; clear f1_ f2_ f3_; subst f4_; subst f5_))
                        refine hK.out _ _ ⟨(blk_cell BK462.out 0).trans rfl, (blk_cell BK467.out 0).trans rfl, (blk_cell BK472.out 0).trans rfl, (blk_cell BK446.out 0).trans rfl⟩ (fun hHeld => ?_)
                        clear hK K
                        refine norm_ (a' := ?_) ?_ ?_
                        rotate_left
                        · show Act.put _ (some 108) _ = _
                          simp only [Act.put, List.setIfInBounds_toArray, List.set_cons_zero, List.set_cons_succ, i64_w, i32_w]
                          rfl
                        refine one_ (i := 12) (N := some 109) #[true, true, true, true, true, true, true, true, true, true, true, true, true, false, false] rfl rfl (one_of HT_.out (by kernel_rfl)) (by decide) (fun K hK => ?_)
                        refine goes_ Tryd.func21 (by kernel_rfl) rfl #[.slice Ao92 t480.length co92, .slice Ao93 t486.length co93] (by rfl) rfl rfl (by (try simp only [List.map_toArray, List.map_cons, List.map_nil]); first | done | rfl | (simp only [List.length_drop, List.length_take]; rfl)) ?_
                        with_reducible refine (crossbarref07_SameEntries.calls kj39 _ _ t480 _ _ t486 t489 _ ?side1 ?side2 ?side3 ?side4 A82.out).mono ?_
                        (case side1 => repeat (first | exact (Kd.R_reads' HO482.out).2.2 | (with_reducible refine Kd.C_alloc ?_ _) | (with_reducible refine Kd.C_drewN ?_ _) | (with_reducible refine Kd.C_drew ?_)))
                        (case side2 => exact (Kd.R_reads' HO482.out).2.1)
                        (case side3 => repeat (first | exact (Kd.R_reads' HO488.out).2.2 | (with_reducible refine Kd.C_alloc ?_ _) | (with_reducible refine Kd.C_drewN ?_ _) | (with_reducible refine Kd.C_drew ?_)))
                        (case side4 => exact (Kd.R_reads' HO488.out).2.1)
                        rintro e w' ⟨rfl, ⟨nd, rfl⟩⟩
                        refine ⟨_, rfl, ?_⟩
                        refine hK.out _ _ ⟨(blk_cell BK462.out 0).trans rfl, (blk_cell BK467.out 0).trans rfl, (blk_cell BK472.out 0).trans rfl, (blk_cell BK446.out 0).trans rfl⟩ (fun hHeld => ?_)
                        clear hK K
                        refine norm_ (a' := ?_) ?_ ?_
                        rotate_left
                        · show Act.put _ (some 109) _ = _
                          simp only [Act.put, List.setIfInBounds_toArray, List.set_cons_zero, List.set_cons_succ, i64_w, i32_w]
                          rfl
                        refine pure_ (i := 13) (N := some 110) (v := ?_) (a' := ?_) #[true, true, true, true, true, true, true, true, true, true, true, true, true, true, false] rfl rfl (any_of HT_.out (by kernel_rfl)) (fun _ _ _ h => h) (Or.inl ⟨by rfl, ?_⟩) ?_ ?_
                        rotate_left
                        · intro w'
                          go_simp
                          with_reducible rfl
                        rotate_left
                        · simp only [Act.put, List.setIfInBounds_toArray, List.set_cons_zero, List.set_cons_succ, i64_w, i32_w]
                          rfl
                        refine pure_ (i := 14) (N := some 10) (v := ?_) (a' := ?_) #[true, true, true, true, true, true, true, true, true, true, true, true, true, true, true] rfl rfl (any_of HT_.out (by kernel_rfl)) (fun _ _ _ h => h) (Or.inl ⟨by rfl, ?_⟩) ?_ ?_
                        rotate_left
                        · intro w'
                          go_simp
                          with_reducible rfl
                        rotate_left
                        · simp only [Act.put, List.setIfInBounds_toArray, List.set_cons_zero, List.set_cons_succ, i64_w, i32_w]
                          rfl
                        refine done_ (done_of HT_.out (by kernel_rfl)) ?_
                        try go_wp2
                        go_ret
                        exact ⟨by first | rfl | (simp [errW_none, errW_some] <;> rfl) | (simp [*, errW_none, errW_some] <;> rfl), by repeat (first | (with_reducible first | exact HB.out | apply below_alloc | apply pw_below_drewN | apply below_drew1 | refine below_set ?_ GE446.out | refine below_set ?_ GE452.out | refine below_set ?_ GE457.out | refine below_set ?_ GE462.out | refine below_set ?_ GE467.out | refine below_set ?_ GE472.out) | exact HB.out)⟩
                      · replace c78 := Bool.eq_false_iff.mpr c78
                        subst c78
                        have H1 : (some false) = some r := by rw [if_neg (show ¬ (false = true) by decide)] at H; exact H
                        clear H
                        have H := H1
                        clear H1
                        exact absurd ((Option.some.inj H).trans ht) (by decide)
  · replace c7 := Bool.eq_false_iff.mpr c7
    subst c7
    have H1 : (some false) = some r := by rw [if_neg (show ¬ (false = true) by decide)] at H; exact H
    clear H
    have H := H1
    clear H1
    exact absurd ((Option.some.inj H).trans ht) (by decide)
end Go.Proofs.YtmendieiikmbhaaDoor.Fn
