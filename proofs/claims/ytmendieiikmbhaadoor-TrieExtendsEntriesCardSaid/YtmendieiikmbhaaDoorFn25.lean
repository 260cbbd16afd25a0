-- printed by a program of this session, out of the translation; Lean checks it
import Derived.Test.YtmendieiikmbhaaDoorFn0
import Derived.Test.YtmendieiikmbhaaDoorFn12x1
import Derived.Test.YtmendieiikmbhaaDoorFn12x3
import Derived.Test.YtmendieiikmbhaaDoorFn21
import Derived.Test.YtmendieiikmbhaaDoorEExt
import Derived.Test.YtmendieiikmbhaaDoorESane
namespace Go.Proofs.YtmendieiikmbhaaDoor.Fn
open Go.RowKit Go.Proofs.YtmendieiikmbhaaDoorW.PrintWords Go.Proofs.YtmendieiikmbhaaDoorW.PrintLast Go.Proofs.YtmendieiikmbhaaDoorW.PrintMore
attribute [local go_sem] max2_int min2_int max_two min_two max_three min_three max_four min_four   -- for this text's walks alone
set_option linter.unusedVariables false
set_option linter.unusedSimpArgs false

/-! ### crossbarlaw07_TrieExtendsEntries: function 9 -/
mutual
noncomputable def crossbarlaw07_TrieExtendsEntries.j0 : Nat → List (S86) → ByteArray → Bool → Option (Bool)
  | 0, _, _, _ => none
  | k + 1, x0, x1, x18 => if x18 = true then (some true) else ((crossbarlaw07_built.f k x0).bind fun bt435 => (crossbarlaw07_TrieExtendsEntries.l0 k x1 bt435.2 false 0 bt435.1))
noncomputable def crossbarlaw07_TrieExtendsEntries.l0 : Nat → ByteArray → List (S39) → Bool → Int → List (S71) → Option (Bool)
  | 0, _, _, _, _, _ => none
  | k + 1, x1, x6, x7, x8, x442000 => if x8 < (x6.length : Int) then (if x7 = true then (crossbarlaw07_TrieExtendsEntries.l0 k x1 x6 true (wrap64 (x8 + 1)) x442000) else (if 0 ≤ x8 then (if (((rd_T39 x6 x8).f0).size : Int) > (x1.size : Int) then ((crossbarlaw07_starts.f ((rd_T39 x6 x8).f0) x1).bind fun t444 => (crossbarlaw07_TrieExtendsEntries.l0 k x1 x6 t444 (wrap64 (x8 + 1)) x442000)) else (crossbarlaw07_TrieExtendsEntries.l0 k x1 x6 false (wrap64 (x8 + 1)) x442000)) else (none))) else ((trie_Extends.f k x442000 x1).bind fun t445 => (some (t445 == x7)))
end
noncomputable def crossbarlaw07_TrieExtendsEntries.f (k : Nat) (l0 : List (S86)) (a1 : ByteArray) : Option (Bool) := (crossbarlaw07_sane.f).bind fun t433 => (if t433 = true then ((crossbarlaw07_short.f k l0).bind fun t434 => (if t434 = true then (crossbarlaw07_TrieExtendsEntries.j0 k l0 a1 (decide ((a1.size : Int) > 40))) else (crossbarlaw07_TrieExtendsEntries.j0 k l0 a1 true))) else (some false))
theorem crossbarlaw07_TrieExtendsEntries.mono_l : ∀ k, (∀ y0 y1 y2, LeO (crossbarlaw07_TrieExtendsEntries.j0 k y0 y1 y2) (crossbarlaw07_TrieExtendsEntries.j0 (k + 1) y0 y1 y2)) ∧ (∀ y0 y1 y2 y3 y4, LeO (crossbarlaw07_TrieExtendsEntries.l0 k y0 y1 y2 y3 y4) (crossbarlaw07_TrieExtendsEntries.l0 (k + 1) y0 y1 y2 y3 y4))
  | 0 => ⟨fun _ _ _ r h => by simp [crossbarlaw07_TrieExtendsEntries.j0] at h, fun _ _ _ _ _ r h => by simp [crossbarlaw07_TrieExtendsEntries.l0] at h⟩
  | k + 1 => by
    obtain ⟨ih0, ih1⟩ := crossbarlaw07_TrieExtendsEntries.mono_l k
    refine ⟨?_, ?_⟩
    · intro y0 y1 y2
      unfold crossbarlaw07_TrieExtendsEntries.j0
      repeat' first
      | (with_reducible exact ih0 _ _ _)
      | (with_reducible exact ih1 _ _ _ _ _)
      | (with_reducible exact crossbarlaw07_built.mono _ _)
      | (with_reducible exact crossbarlaw07_short.mono _ _)
      | (with_reducible exact trie_Extends.mono _ _ _)
      | (with_reducible exact LeO.refl _)
      | (with_reducible exact LeO.none _)
      | (with_reducible refine LeO.ite ?_ ?_)
      | (with_reducible refine LeO.bind ?_ (fun _ => ?_))
      | exact ih0 _ _ _
      | exact ih1 _ _ _ _ _
      | exact crossbarlaw07_built.mono _ _
      | exact crossbarlaw07_short.mono _ _
      | exact trie_Extends.mono _ _ _
      | exact LeO.none _
      | refine LeO.ite ?_ ?_
      | refine LeO.bind ?_ (fun _ => ?_)
    · intro y0 y1 y2 y3 y4
      unfold crossbarlaw07_TrieExtendsEntries.l0
      repeat' first
      | (with_reducible exact ih0 _ _ _)
      | (with_reducible exact ih1 _ _ _ _ _)
      | (with_reducible exact crossbarlaw07_built.mono _ _)
      | (with_reducible exact crossbarlaw07_short.mono _ _)
      | (with_reducible exact trie_Extends.mono _ _ _)
      | (with_reducible exact LeO.refl _)
      | (with_reducible exact LeO.none _)
      | (with_reducible refine LeO.ite ?_ ?_)
      | (with_reducible refine LeO.bind ?_ (fun _ => ?_))
      | exact ih0 _ _ _
      | exact ih1 _ _ _ _ _
      | exact crossbarlaw07_built.mono _ _
      | exact crossbarlaw07_short.mono _ _
      | exact trie_Extends.mono _ _ _
      | exact LeO.none _
      | refine LeO.ite ?_ ?_
      | refine LeO.bind ?_ (fun _ => ?_)
theorem crossbarlaw07_TrieExtendsEntries.mono : ∀ a0 a1 k, LeO (crossbarlaw07_TrieExtendsEntries.f k a0 a1) (crossbarlaw07_TrieExtendsEntries.f (k + 1) a0 a1) := by
  intro a0 a1 k
  obtain ⟨ih0, ih1⟩ := crossbarlaw07_TrieExtendsEntries.mono_l k
  unfold crossbarlaw07_TrieExtendsEntries.f
  repeat' first
      | (with_reducible exact ih0 _ _ _)
      | (with_reducible exact ih1 _ _ _ _ _)
      | (with_reducible exact crossbarlaw07_built.mono _ _)
      | (with_reducible exact crossbarlaw07_short.mono _ _)
      | (with_reducible exact trie_Extends.mono _ _ _)
      | (with_reducible exact LeO.refl _)
      | (with_reducible exact LeO.none _)
      | (with_reducible refine LeO.ite ?_ ?_)
      | (with_reducible refine LeO.bind ?_ (fun _ => ?_))
      | exact ih0 _ _ _
      | exact ih1 _ _ _ _ _
      | exact crossbarlaw07_built.mono _ _
      | exact crossbarlaw07_short.mono _ _
      | exact trie_Extends.mono _ _ _
      | exact LeO.none _
      | refine LeO.ite ?_ ?_
      | refine LeO.bind ?_ (fun _ => ?_)
set_option maxHeartbeats 8000000 in
set_option maxRecDepth 100000 in
theorem crossbarlaw07_TrieExtendsEntries.calls (k : Nat) (A0 : Option Addr) (c0 : Nat) (l0 : List (S86)) (a1 : ByteArray) (r : Bool) (ht : r = true) (w : World) (hr0 : Kd.C k86 w A0 l0.length l0) (hc0 : l0.length ≤ c0) (h : crossbarlaw07_TrieExtendsEntries.f k l0 a1 = some r) :
    Calls Tryd.prog 9 #[.slice A0 l0.length c0, .string a1] w fun e w' => e = .returned (.bool r) ∧ Below w.heap.size w w' := by
  have hu24 := Tryd.underlying24
  have HR0 := Aside0.mk hr0
  have HC0 := Aside0.mk hc0
  clear hr0 hc0
  have HB := Aside0.mk (Below.refl w.heap.size w)
  have H : ((crossbarlaw07_sane.f).bind fun t433 => (if t433 = true then ((crossbarlaw07_short.f k l0).bind fun t434 => (if t434 = true then (crossbarlaw07_TrieExtendsEntries.j0 k l0 a1 (decide ((a1.size : Int) > 40))) else (crossbarlaw07_TrieExtendsEntries.j0 k l0 a1 true))) else (some false))) = some r := h
  clear h
  replace H := Option.bind_eq_some_iff.mp H
  obtain ⟨t433, A30, H⟩ := H
  replace H : (if t433 = true then ((crossbarlaw07_short.f k l0).bind fun t434 => (if t434 = true then (crossbarlaw07_TrieExtendsEntries.j0 k l0 a1 (decide ((a1.size : Int) > 40))) else (crossbarlaw07_TrieExtendsEntries.j0 k l0 a1 true))) else (some false)) = some r := H
  have A3 := Aside0.mk A30
  clear A30
  by_cases c4 : t433 = true
  · subst c4
    have H1 : ((crossbarlaw07_short.f k l0).bind fun t434 => (if t434 = true then (crossbarlaw07_TrieExtendsEntries.j0 k l0 a1 (decide ((a1.size : Int) > 40))) else (crossbarlaw07_TrieExtendsEntries.j0 k l0 a1 true))) = some r := by rw [if_pos rfl] at H; exact H
    clear H
    have H := H1
    clear H1
    have HC5 := Aside0.mk H
    clear H
    go_enter Tryd.func9, Tryd.ntmps9
    go_upto_region 3 with (first | ((with_reducible refine gate_callee (f := 15) rfl ?_); refine goesL_ (some 9) rfl rfl Tryd.func15 (by kernel_rfl) rfl #[] rfl (by (try simp only [List.map_toArray, List.map_cons, List.map_nil]); first | done | rfl | (simp only [List.length_drop, List.length_take]; rfl)) ?_; (with_reducible refine (crossbarlaw07_sane.calls  true _ A3.out).mono ?_); rintro e w6 ⟨rfl, hb⟩; refine ⟨_, rfl, ?_⟩; have n0_ := Aside0.mk (below_step (by repeat (first | (with_reducible first | exact HB.out | apply below_alloc | apply pw_below_drewN | apply below_drew1) | exact HB.out)) hb); clear HB; have HB := n0_; clear n0_; (try clear hb); (try clear hb2); (try clear hk); (try clear hi)))
    (try simp only [Act.put, List.setIfInBounds_toArray, List.set_cons_zero, List.set_cons_succ])
    go_cut [18] (fun v18 wc => ∃ (kq : Nat) (x18_4 : Bool), v18 = .bool x18_4 ∧ Aside0 (crossbarlaw07_TrieExtendsEntries.j0 kq l0 a1 x18_4 = some r) ∧ Aside0 (kq ≤ k) ∧ Aside0 (Below w.heap.size w wc))
    case first =>
      have H := HC5.out
      clear HC5
      replace H := Option.bind_eq_some_iff.mp H
      obtain ⟨t434, A70, H⟩ := H
      replace H : (if t434 = true then (crossbarlaw07_TrieExtendsEntries.j0 k l0 a1 (decide ((a1.size : Int) > 40))) else (crossbarlaw07_TrieExtendsEntries.j0 k l0 a1 true)) = some r := H
      have A7 := Aside0.mk A70
      clear A70
      by_cases c8 : t434 = true
      · subst c8
        have H1 : (crossbarlaw07_TrieExtendsEntries.j0 k l0 a1 (decide ((a1.size : Int) > 40))) = some r := by rw [if_pos rfl] at H; exact H
        clear H
        have H := H1
        clear H1
        have H' := Aside0.mk H
        clear H
        go_wp2_with (first | ((with_reducible refine gate_callee (f := 32) rfl ?_); refine goesL_ (some 12) rfl rfl Tryd.func32 (by kernel_rfl) rfl #[.slice A0 l0.length c0] rfl (by (try simp only [List.map_toArray, List.map_cons, List.map_nil]); first | done | rfl | (simp only [List.length_drop, List.length_take]; rfl)) ?_; (with_reducible refine (crossbarlaw07_short.calls k _ _ l0 true _ ?side1 ?side2 A7.out).mono ?_); (case side1 => repeat (first | exact (Kd.C_below HR0.out HB.out) | (with_reducible refine Kd.C_alloc ?_ _) | (with_reducible refine Kd.C_drewN ?_ _) | (with_reducible refine Kd.C_drew ?_))); (case side2 => exact HC0.out); rintro e w' ⟨rfl, ⟨nd, rfl⟩⟩; refine ⟨_, rfl, ?_⟩))
        go_meet
        case rel => exact ⟨_, (decide ((a1.size : Int) > 40)), (by first | rfl | (simp; done) | (simp [*]; done)), H', ⟨by first | omega | exact Nat.le_refl _⟩, ⟨by repeat (first | (with_reducible first | exact HB.out | apply below_alloc | apply pw_below_drewN | apply below_drew1) | exact HB.out)⟩⟩
      · replace c8 := Bool.eq_false_iff.mpr c8
        subst c8
        have H1 : (crossbarlaw07_TrieExtendsEntries.j0 k l0 a1 true) = some r := by rw [if_neg (show ¬ (false = true) by decide)] at H; exact H
        clear H
        have H := H1
        clear H1
        have H' := Aside0.mk H
        clear H
        go_wp2_with (first | ((with_reducible refine gate_callee (f := 32) rfl ?_); refine goesL_ (some 12) rfl rfl Tryd.func32 (by kernel_rfl) rfl #[.slice A0 l0.length c0] rfl (by (try simp only [List.map_toArray, List.map_cons, List.map_nil]); first | done | rfl | (simp only [List.length_drop, List.length_take]; rfl)) ?_; (with_reducible refine (crossbarlaw07_short.calls k _ _ l0 false _ ?side1 ?side2 A7.out).mono ?_); (case side1 => repeat (first | exact (Kd.C_below HR0.out HB.out) | (with_reducible refine Kd.C_alloc ?_ _) | (with_reducible refine Kd.C_drewN ?_ _) | (with_reducible refine Kd.C_drew ?_))); (case side2 => exact HC0.out); rintro e w' ⟨rfl, ⟨nd, rfl⟩⟩; refine ⟨_, rfl, ?_⟩))
        go_meet
        case rel => exact ⟨_, (true), (by first | rfl | (simp; done) | (simp [*]; done)), H', ⟨by first | omega | exact Nat.le_refl _⟩, ⟨by repeat (first | (with_reducible first | exact HB.out | apply below_alloc | apply pw_below_drewN | apply below_drew1) | exact HB.out)⟩⟩
    case rest =>
      clear HC5
      try clear c1
      try clear p2
      try clear c3
      try clear c4
      try clear c8
      obtain ⟨kq, x18_4, rfl, HA, HJ4, HB⟩ := hcut
      cases kq with
      | zero => exact absurd HA.out (by simp [crossbarlaw07_TrieExtendsEntries.j0])
      | succ kj4 =>
        have H := HA.out
        clear HA
        simp only [crossbarlaw07_TrieExtendsEntries.j0] at H
        by_cases c9 : x18_4 = true
        · subst c9
          have H1 : (some true) = some r := by rw [if_pos rfl] at H; exact H
          clear H
          have H := H1
          clear H1
          obtain rfl := Option.some.inj H
          go_wp2
          go_ret
          exact ⟨by first | rfl | (simp [errW_none, errW_some] <;> rfl) | (simp [*, errW_none, errW_some] <;> rfl), by repeat (first | (with_reducible first | exact HB.out | apply below_alloc | apply pw_below_drewN | apply below_drew1) | exact HB.out)⟩
        · replace c9 := Bool.eq_false_iff.mpr c9
          subst c9
          have H1 : ((crossbarlaw07_built.f kj4 l0).bind fun bt435 => (crossbarlaw07_TrieExtendsEntries.l0 kj4 a1 bt435.2 false 0 bt435.1)) = some r := by rw [if_neg (show ¬ (false = true) by decide)] at H; exact H
          clear H
          have H := H1
          clear H1
          replace H := Option.bind_eq_some_iff.mp H
          obtain ⟨⟨t435, t438⟩, A100, H⟩ := H
          replace H : (crossbarlaw07_TrieExtendsEntries.l0 kj4 a1 t438 false 0 t435) = some r := H
          have A10 := Aside0.mk A100
          clear A100
          have H' := Aside0.mk H
          clear H
          go_wp2_with (first | ((with_reducible refine gate_callee (f := 33) rfl ?_); refine goesL_ (some 21) rfl rfl Tryd.func33 (by kernel_rfl) rfl #[.slice A0 l0.length c0] rfl (by (try simp only [List.map_toArray, List.map_cons, List.map_nil]); first | done | rfl | (simp only [List.length_drop, List.length_take]; rfl)) ?_; (with_reducible refine (crossbarlaw07_built.calls kj4 _ _ l0 t435 t438 _ ?side1 ?side2 A10.out).mono ?_); (case side1 => repeat (first | exact (Kd.C_below HR0.out HB.out) | (with_reducible refine Kd.C_alloc ?_ _) | (with_reducible refine Kd.C_drewN ?_ _) | (with_reducible refine Kd.C_drew ?_))); (case side2 => exact HC0.out); rintro e w11 ⟨v436, v439, rfl, ho0, ho1, hb⟩; refine ⟨_, rfl, ?_⟩; have n0_ := Aside0.mk (Kd.R_lower ho0 (below_size (by repeat (first | (with_reducible first | exact HB.out | apply below_alloc | apply pw_below_drewN | apply below_drew1) | exact HB.out)))); have n1_ := Aside0.mk (Kd.R_lower ho1 (below_size (by repeat (first | (with_reducible first | exact HB.out | apply below_alloc | apply pw_below_drewN | apply below_drew1) | exact HB.out)))); have n2_ := Aside0.mk (below_step (by repeat (first | (with_reducible first | exact HB.out | apply below_alloc | apply pw_below_drewN | apply below_drew1) | exact HB.out)) hb); clear HB; have HO437 := n0_; have HO440 := n1_; have HB := n2_; clear n0_ n1_ n2_; (try clear hb); (try clear hb2); (try clear hk); (try clear hi); (try clear ho0); (try clear ho1)) | ((with_reducible refine gate_dst (N := 5) rfl ?_); (try (refine gate_guard (by rfl) ?_; dsimp only)); refine box_event ?hg (N := 5) ?hd (cs := #[.slice none 0 0]) (t := 24) ?hr ?_; (case hd => rfl); (case hg => rfl); (case hr => first | (go_simp; done) | (go_simp; rfl)); intro gb441 hg w12 hbox hb; have n0_ := Aside0.mk (Kd.R_below (by (with_reducible repeat (first | apply Kd.R_alloc | apply Kd.R_drewN | apply Kd.R_drew)); exact HO437.out) hb); have n1_ := Aside0.mk (Kd.R_below (by (with_reducible repeat (first | apply Kd.R_alloc | apply Kd.R_drewN | apply Kd.R_drew)); exact HO440.out) hb); have n2_ := Aside0.mk (below_step (by repeat (first | (with_reducible first | exact HB.out | apply below_alloc | apply pw_below_drewN | apply below_drew1) | exact HB.out)) hb); have n3_ := Aside0.mk (hbox); have n4_ := Aside0.mk ((by rw [hg]; exact (below_size (by repeat (first | (with_reducible first | exact HB.out | apply below_alloc | apply pw_below_drewN | apply below_drew1) | exact HB.out))) : w.heap.size ≤ gb441)); have n5_ := Aside0.mk ((by rw [hg]; exact (below_size (by repeat (first | (with_reducible first | exact HB.out | apply below_alloc | apply pw_below_drewN | apply below_drew1) | exact HB.out))) : w.heap.size ≤ gb441)); clear HO437; clear HO440; clear HB; have HO437 := n0_; have HO440 := n1_; have HB := n2_; have BK441 := n3_; have GW441 := n4_; have GE441 := n5_; clear n0_ n1_ n2_ n3_ n4_ n5_; clear hb hbox hg; obtain ⟨Ao13, co13, eo13⟩ := Kd.R_slice HO437.out; subst eo13; have hcz14_0 : w12.cell? ⟨gb441, 0, none⟩ = some (.slice none 0 0) := (blk_cell BK441.out 0).trans rfl; have hfz14_0 := blk_frozen BK441.out 0))
          go_loopg [7, 8] kj4 (fun kq v7 v8 w' => ∃ (x7_2 : Bool) (x8_2 : Int), v7 = .bool x7_2 ∧ v8 = .int .i64 x8_2 ∧ Aside0 (crossbarlaw07_TrieExtendsEntries.l0 kq a1 t438 x7_2 x8_2 t435 = some r) ∧ Aside0 (kq ≤ kj4) ∧ Aside0 (Kd.R k39 39 w' w.heap.size (fun _ => True) v439 t438) ∧ Aside0 (Kd.R k71 71 w' w.heap.size (fun _ => True) (.slice Ao13 t435.length co13) t435) ∧ Aside0 (w'.heap[gb441]? = some (.cells #[(.slice Ao13 t435.length co13)] 24 (0, 0))) ∧ Aside0 (Below w.heap.size w w'))
          case atStart => exact ⟨(false), (0), (by first | rfl | (simp; done) | (simp [*]; done)), (by first | rfl | (simp; done) | (simp [*]; done)), H', ⟨Nat.le_refl _⟩, ⟨by (with_reducible repeat (first | apply Kd.R_alloc | apply Kd.R_drewN | apply Kd.R_drew)); exact Kd.R_mono (Kd.R_far (p := ⟨gb441, 0, none⟩) (Kd.R_types HO440.out BK441.out (by decide)) (fun _ hk => hk.2) (.slice Ao13 t435.length co13)) (fun _ hk => trivial)⟩, ⟨by (with_reducible repeat (first | apply Kd.R_alloc | apply Kd.R_drewN | apply Kd.R_drew)); exact Kd.R_mono (Kd.R_far (p := ⟨gb441, 0, none⟩) (Kd.R_types HO437.out BK441.out (by decide)) (fun _ hk => hk.2) (.slice Ao13 t435.length co13)) (fun _ hk => trivial)⟩, ⟨by (with_reducible repeat (first | refine blk_drewN ?_ _ | refine blk_drew ?_ | refine blk_alloc ?_ _)); refine blk_put (cs := #[.slice none 0 0]) ?_ 0 _ rfl; (with_reducible repeat (first | refine blk_drewN ?_ _ | refine blk_drew ?_ | refine blk_alloc ?_ _)); exact BK441.out⟩, ⟨by repeat (first | (with_reducible first | exact HB.out | apply below_alloc | apply pw_below_drewN | apply below_drew1 | refine below_set ?_ GE441.out) | exact HB.out)⟩⟩
          case round =>
            clear H'
            try clear c1
            try clear p2
            try clear c3
            try clear c4
            try clear c8
            try clear c9
            try clear hcz14_0
            try clear hfz14_0
            try clear p2
            obtain ⟨x7_2, x8_2, rfl, rfl, HA, HK2, HO_6, HO_442000, BK441, HB⟩ := hrel
            cases gk with
            | zero => exact absurd HA.out (by simp [crossbarlaw07_TrieExtendsEntries.l0])
            | succ k2 =>
              have H := HA.out
              clear HA
              simp only [crossbarlaw07_TrieExtendsEntries.l0] at H
              by_cases c15 : x8_2 < (t438.length : Int)
              · rw [if_pos c15] at H
                have c15b0 : decide (x8_2 < (t438.length : Int)) = true := decide_eq_true c15
                clear c15
                by_cases c16 : x7_2 = true
                · subst c16
                  have H1 : (crossbarlaw07_TrieExtendsEntries.l0 k2 a1 t438 true (wrap64 (x8_2 + 1)) t435) = some r := by rw [if_pos rfl] at H; exact H
                  clear H
                  have H := H1
                  clear H1
                  have H' := Aside0.mk H
                  clear H
                  obtain ⟨Ao17, co17, eo17⟩ := Kd.R_slice HO_6.out
                  subst eo17
                  go_wp2
                  go_roundg k2
                  case measure => have := HJ4.out; have := HK2.out; omega
                  case rel => exact ⟨(true), (wrap64 (x8_2 + 1)), (by first | rfl | (simp; done) | (simp [*]; done)), (by first | rfl | (simp; done) | (simp [*]; done)), H', ⟨by have := HJ4.out; have := HK2.out; omega⟩, ⟨by (with_reducible repeat (first | apply Kd.R_alloc | apply Kd.R_drewN | apply Kd.R_drew)); exact HO_6.out⟩, ⟨by (with_reducible repeat (first | apply Kd.R_alloc | apply Kd.R_drewN | apply Kd.R_drew)); exact HO_442000.out⟩, ⟨by (with_reducible repeat (first | refine blk_drewN ?_ _ | refine blk_drew ?_ | refine blk_alloc ?_ _)); exact BK441.out⟩, ⟨by repeat (first | (with_reducible first | exact HB.out | apply below_alloc | apply pw_below_drewN | apply below_drew1 | refine below_set ?_ GE441.out) | exact HB.out)⟩⟩
                · replace c16 := Bool.eq_false_iff.mpr c16
                  subst c16
                  have H1 : (if 0 ≤ x8_2 then (if (((rd_T39 t438 x8_2).f0).size : Int) > (a1.size : Int) then ((crossbarlaw07_starts.f ((rd_T39 t438 x8_2).f0) a1).bind fun t444 => (crossbarlaw07_TrieExtendsEntries.l0 k2 a1 t438 t444 (wrap64 (x8_2 + 1)) t435)) else (crossbarlaw07_TrieExtendsEntries.l0 k2 a1 t438 false (wrap64 (x8_2 + 1)) t435)) else (none)) = some r := by rw [if_neg (show ¬ (false = true) by decide)] at H; exact H
                  clear H
                  have H := H1
                  clear H1
                  by_cases c18 : 0 ≤ x8_2
                  · rw [if_pos c18] at H
                    have c18b0 : decide (0 ≤ x8_2) = true := decide_eq_true c18
                    clear c18
                    by_cases c19 : (((rd_T39 t438 x8_2).f0).size : Int) > (a1.size : Int)
                    · rw [if_pos c19] at H
                      have c19b0 : decide ((a1.size : Int) < (((rd_T39 t438 x8_2).f0).size : Int)) = true := decide_eq_true c19
                      have c19b1 : decide (a1.size < ((rd_T39 t438 x8_2).f0).size) = true := decide_eq_true (Int.ofNat_lt.mp c19)
                      clear c19
                      replace H := Option.bind_eq_some_iff.mp H
                      obtain ⟨t444, A200, H⟩ := H
                      replace H : (crossbarlaw07_TrieExtendsEntries.l0 k2 a1 t438 t444 (wrap64 (x8_2 + 1)) t435) = some r := H
                      have A20 := Aside0.mk A200
                      clear A200
                      have H' := Aside0.mk H
                      clear H
                      obtain ⟨Ao21, co21, eo21⟩ := Kd.R_slice HO_6.out
                      subst eo21
                      have p442 : 0 ≤ (x8_2 : Int) := of_decide_eq_true (by first | (with_reducible assumption) | assumption)
                      have q442 : x8_2 < (t438.length : Int) := of_decide_eq_true (by first | (with_reducible assumption) | assumption)
                      obtain ⟨ad442, e442, hx442_0, hx442_1⟩ := at_T39 (Kd.R_reads' HO_6.out).2.2 x8_2 p442 q442
                      cases e442
                      replace p442 := eq_true p442
                      replace q442 := eq_true q442
                      have p443 : 0 ≤ (x8_2 : Int) := of_decide_eq_true (by first | (with_reducible assumption) | assumption)
                      have q443 : x8_2 < (t438.length : Int) := of_decide_eq_true (by first | (with_reducible assumption) | assumption)
                      obtain ⟨ad443, e443, hx443_0, hx443_1⟩ := at_T39 (Kd.R_reads' HO_6.out).2.2 x8_2 p443 q443
                      obtain rfl : ad442 = ad443 := (by injection e443)
                      replace p443 := eq_true p443
                      replace q443 := eq_true q443
                      go_wp2_with (first | (go_at_call 34; (with_reducible refine (crossbarlaw07_starts.calls ((rd_T39 t438 x8_2).f0) a1 t444 _ A20.out).mono ?_); rintro e w' ⟨rfl, ⟨nd, rfl⟩⟩))
                      go_roundg k2
                      case measure => have := HJ4.out; have := HK2.out; omega
                      case rel => exact ⟨(t444), (wrap64 (x8_2 + 1)), (by first | rfl | (simp; done) | (simp [*]; done)), (by first | rfl | (simp; done) | (simp [*]; done)), H', ⟨by have := HJ4.out; have := HK2.out; omega⟩, ⟨by (with_reducible repeat (first | apply Kd.R_alloc | apply Kd.R_drewN | apply Kd.R_drew)); exact HO_6.out⟩, ⟨by (with_reducible repeat (first | apply Kd.R_alloc | apply Kd.R_drewN | apply Kd.R_drew)); exact HO_442000.out⟩, ⟨by (with_reducible repeat (first | refine blk_drewN ?_ _ | refine blk_drew ?_ | refine blk_alloc ?_ _)); exact BK441.out⟩, ⟨by repeat (first | (with_reducible first | exact HB.out | apply below_alloc | apply pw_below_drewN | apply below_drew1 | refine below_set ?_ GE441.out) | exact HB.out)⟩⟩
                    · rw [if_neg c19] at H
                      have c19b0 : decide ((a1.size : Int) < (((rd_T39 t438 x8_2).f0).size : Int)) = false := decide_eq_false c19
                      have c19b1 : decide (a1.size < ((rd_T39 t438 x8_2).f0).size) = false := decide_eq_false (fun h => c19 (Int.ofNat_lt.mpr h))
                      clear c19
                      have H' := Aside0.mk H
                      clear H
                      obtain ⟨Ao22, co22, eo22⟩ := Kd.R_slice HO_6.out
                      subst eo22
                      have p442 : 0 ≤ (x8_2 : Int) := of_decide_eq_true (by first | (with_reducible assumption) | assumption)
                      have q442 : x8_2 < (t438.length : Int) := of_decide_eq_true (by first | (with_reducible assumption) | assumption)
                      obtain ⟨ad442, e442, hx442_0, hx442_1⟩ := at_T39 (Kd.R_reads' HO_6.out).2.2 x8_2 p442 q442
                      cases e442
                      replace p442 := eq_true p442
                      replace q442 := eq_true q442
                      go_wp2
                      go_roundg k2
                      case measure => have := HJ4.out; have := HK2.out; omega
                      case rel => exact ⟨(false), (wrap64 (x8_2 + 1)), (by first | rfl | (simp; done) | (simp [*]; done)), (by first | rfl | (simp; done) | (simp [*]; done)), H', ⟨by have := HJ4.out; have := HK2.out; omega⟩, ⟨by (with_reducible repeat (first | apply Kd.R_alloc | apply Kd.R_drewN | apply Kd.R_drew)); exact HO_6.out⟩, ⟨by (with_reducible repeat (first | apply Kd.R_alloc | apply Kd.R_drewN | apply Kd.R_drew)); exact HO_442000.out⟩, ⟨by (with_reducible repeat (first | refine blk_drewN ?_ _ | refine blk_drew ?_ | refine blk_alloc ?_ _)); exact BK441.out⟩, ⟨by repeat (first | (with_reducible first | exact HB.out | apply below_alloc | apply pw_below_drewN | apply below_drew1 | refine below_set ?_ GE441.out) | exact HB.out)⟩⟩
                  · rw [if_neg c18] at H
                    exact absurd H (by simp)
              · rw [if_neg c15] at H
                have c15b0 : decide (x8_2 < (t438.length : Int)) = false := decide_eq_false c15
                clear c15
                replace H := Option.bind_eq_some_iff.mp H
                obtain ⟨t445, A230, H⟩ := H
                replace H : (some (t445 == x7_2)) = some r := H
                have A23 := Aside0.mk A230
                clear A230
                obtain rfl := Option.some.inj H
                obtain ⟨Ao24, co24, eo24⟩ := Kd.R_slice HO_6.out
                subst eo24
                have hcz25_0 : wr.cell? ⟨gb441, 0, none⟩ = some (.slice Ao13 t435.length co13) := (blk_cell BK441.out 0).trans rfl
                have hfz25_0 := blk_frozen BK441.out 0
                go_wp2_with (first | ((with_reducible refine gate_callee (f := 19) rfl ?_); refine goesL_ (some 53) rfl rfl Tryd.func19 (by kernel_rfl) rfl #[.agg #[.slice Ao13 t435.length co13], .string a1] rfl (by (try simp only [List.map_toArray, List.map_cons, List.map_nil]); first | done | rfl | (simp only [List.length_drop, List.length_take]; rfl)) ?_; (with_reducible refine (trie_Extends.calls k2 _ _ t435 a1 t445 _ ?side1 ?side2 A23.out).mono ?_); (case side1 => repeat (first | exact (Kd.R_reads' HO_442000.out).2.2 | (with_reducible refine Kd.C_alloc ?_ _) | (with_reducible refine Kd.C_drewN ?_ _) | (with_reducible refine Kd.C_drew ?_))); (case side2 => exact (Kd.R_reads' HO_442000.out).2.1); rintro e w26 ⟨rfl, hb⟩; refine ⟨_, rfl, ?_⟩; have n0_ := Aside0.mk (Kd.R_below (by (with_reducible repeat (first | apply Kd.R_alloc | apply Kd.R_drewN | apply Kd.R_drew)); exact HO_6.out) hb); have n1_ := Aside0.mk (Kd.R_below (by (with_reducible repeat (first | apply Kd.R_alloc | apply Kd.R_drewN | apply Kd.R_drew)); exact HO_442000.out) hb); have n2_ := Aside0.mk (blk_below (g := gb441) (o := .cells #[.slice Ao13 t435.length co13] 24 (0, 0)) (by (with_reducible repeat (first | refine blk_drewN ?_ _ | refine blk_drew ?_ | refine blk_alloc ?_ _)); exact BK441.out) hb); have n3_ := Aside0.mk (below_step (by repeat (first | (with_reducible first | exact HB.out | apply below_alloc | apply pw_below_drewN | apply below_drew1 | refine below_set ?_ GE441.out) | exact HB.out)) hb); clear HO_6; clear HO_442000; clear BK441; clear HB; have HO_6 := n0_; have HO_442000 := n1_; have BK441 := n2_; have HB := n3_; clear n0_ n1_ n2_ n3_; (try clear hb); (try clear hb2); (try clear hk); (try clear hi)))
                go_ret
                exact ⟨by first | rfl | (simp [errW_none, errW_some] <;> rfl) | (simp [*, errW_none, errW_some] <;> rfl), by repeat (first | (with_reducible first | exact HB.out | apply below_alloc | apply pw_below_drewN | apply below_drew1 | refine below_set ?_ GE441.out) | exact HB.out)⟩
  · replace c4 := Bool.eq_false_iff.mpr c4
    subst c4
    have H1 : (some false) = some r := by rw [if_neg (show ¬ (false = true) by decide)] at H; exact H
    clear H
    have H := H1
    clear H1
    exact absurd ((Option.some.inj H).trans ht) (by decide)
end Go.Proofs.YtmendieiikmbhaaDoor.Fn
