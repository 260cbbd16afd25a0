/-
  crossbarlaw08.sane: the chapter's example, walked with the functions' contracts.
-/
import Derived.Test.YthknfclhkmehgaaDoorPSpec
namespace Go.Proofs.YthknfclhkmehgaaDoor.Fn
open Go.RowKit Go.Proofs.YthknfclhkmehgaaDoorW.PrintWords Go.Proofs.YthknfclhkmehgaaDoorW.PrintLast Go.Proofs.YthknfclhkmehgaaDoorW.PrintMore
set_option linter.unusedVariables false
set_option linter.unusedSimpArgs false

def crossbarlaw08_example.f  : Option ((List (S35))) := some (([(⟨(⟨#[49]⟩ : ByteArray), 3, 3, 2⟩ : S35), (⟨(⟨#[50]⟩ : ByteArray), 5, 7, 1⟩ : S35), (⟨(⟨#[50, 57]⟩ : ByteArray), 2, 2, 4⟩ : S35)] : List (S35)))
set_option maxHeartbeats 8000000 in
set_option maxRecDepth 100000 in
theorem crossbarlaw08_example.calls  (r : List (S35)) (w : World) (h : crossbarlaw08_example.f  = some r) :
    Calls Tryd.prog 34 #[] w fun e w' => ∃ v0_ : Value, e = .returned (v0_) ∧ Kd.R k35 35 w' w.heap.size (fun _ => True) v0_ r ∧ Below w.heap.size w w' := by
  have hu61 := Tryd.underlying35
  have HB := Aside0.mk (Below.refl w.heap.size w)
  have H : (some (([(⟨(⟨#[49]⟩ : ByteArray), 3, 3, 2⟩ : S35), (⟨(⟨#[50]⟩ : ByteArray), 5, 7, 1⟩ : S35), (⟨(⟨#[50, 57]⟩ : ByteArray), 2, 2, 4⟩ : S35)] : List (S35)))) = some r := h
  clear h
  obtain ⟨y101, hy101⟩ : ∃ y_ : List (S35), y_ = (([(⟨(⟨#[49]⟩ : ByteArray), 3, 3, 2⟩ : S35), (⟨(⟨#[50]⟩ : ByteArray), 5, 7, 1⟩ : S35), (⟨(⟨#[50, 57]⟩ : ByteArray), 2, 2, 4⟩ : S35)] : List (S35))) := ⟨_, rfl⟩
  replace H : (some y101) = some r := by first | (rw [hy101]; with_reducible exact H) | (have H2_ := (Option.bind_some _ _).symm.trans H; rw [hy101]; with_reducible exact H2_) | (have H2_ := (Option.bind_some _ _).symm.trans H; with_reducible exact H2_) | with_reducible exact H | (rw [hy101]; exact H) | exact H
  have Ny101 := Aside0.mk hy101
  clear hy101
  obtain rfl := Option.some.inj H
  go_enter Tryd.func34, Tryd.ntmps34
  go_wp2_with (first | ((with_reducible refine gate_dst (N := 4) rfl ?_); refine Kd.R_lit k35 _ 35 ?hg (N := 4) ?hd (xs := ([(⟨(⟨#[49]⟩ : ByteArray), 3, 3, 2⟩ : S35), (⟨(⟨#[50]⟩ : ByteArray), 5, 7, 1⟩ : S35), (⟨(⟨#[50, 57]⟩ : ByteArray), 2, 2, 4⟩ : S35)] : List (S35))) (inner := [.string (⟨#[49]⟩ : ByteArray), .int .i64 3, .int .i64 3, .int .i64 2, .string (⟨#[50]⟩ : ByteArray), .int .i64 5, .int .i64 7, .int .i64 1, .string (⟨#[50, 57]⟩ : ByteArray), .int .i64 2, .int .i64 2, .int .i64 4]) (ok := fun _ => True) (okp := fun _ => True) ?hr ?hp (fun _ hk => hk) trivial (Below.refl _ _) (Nat.le_refl _) (by simp) ?_; (case hd => rfl); (case hg => rfl); (case hr => first | (go_simp; done) | (go_simp; rfl)); (case hp => exact (Reps.c4 (show Kd.M k35 _ _ _ (⟨(⟨#[49]⟩ : ByteArray), 3, 3, 2⟩ : S35) [.string (⟨#[49]⟩ : ByteArray), .int .i64 3, .int .i64 3, .int .i64 2] from (k35_mkM _ _ _ (⟨(⟨#[49]⟩ : ByteArray), 3, 3, 2⟩ : S35) )) (Reps.c4 (show Kd.M k35 _ _ _ (⟨(⟨#[50]⟩ : ByteArray), 5, 7, 1⟩ : S35) [.string (⟨#[50]⟩ : ByteArray), .int .i64 5, .int .i64 7, .int .i64 1] from (k35_mkM _ _ _ (⟨(⟨#[50]⟩ : ByteArray), 5, 7, 1⟩ : S35) )) (Reps.c4 (show Kd.M k35 _ _ _ (⟨(⟨#[50, 57]⟩ : ByteArray), 2, 2, 4⟩ : S35) [.string (⟨#[50, 57]⟩ : ByteArray), .int .i64 2, .int .i64 2, .int .i64 4] from (k35_mkM _ _ _ (⟨(⟨#[50, 57]⟩ : ByteArray), 2, 2, 4⟩ : S35) )) (Reps.none _ _))))); intro v102 w1 ho2 hb hg_ hnew_; clear hg_ hnew_; (first | rw [← Ny101.out] at ho2 | (simp only [Int.reduceToNat] at ho2; rw [← Ny101.out] at ho2)); have n0_ := Aside0.mk (Kd.R_lower ho2 (below_size (by repeat (first | (with_reducible first | exact HB.out | apply below_alloc | apply pw_below_drewN | apply below_drew1) | exact HB.out)))); have n1_ := Aside0.mk (below_step (by repeat (first | (with_reducible first | exact HB.out | apply below_alloc | apply pw_below_drewN | apply below_drew1) | exact HB.out)) hb); clear HB; have HO103 := n0_; have HB := n1_; clear n0_ n1_; clear hb ho2))
  go_ret
  exact ⟨_, by first | rfl | (simp [errW_none, errW_some] <;> rfl) | (simp [*, errW_none, errW_some] <;> rfl), by (with_reducible repeat (first | apply Kd.R_alloc | apply Kd.R_drewN | apply Kd.R_drew)); exact HO103.out, by repeat (first | (with_reducible first | exact HB.out | apply below_alloc | apply pw_below_drewN | apply below_drew1) | exact HB.out)⟩

set_option maxHeartbeats 4000000 in
set_option maxRecDepth 100000 in
theorem is_in (l0 : Rl) (hex : crossbarlaw08_example.f = some l0) (s : ByteArray) (fin : Bool) (st ru : Int) (hA : ∃ k, dialplan_Analyze.f k l0 s fin = some (st, ru, 0)) (w : World) :
    Calls Tryd.prog 35 #[.string s, .bool fin, .int .i64 st, .int .i64 ru] w fun e w' => e = .returned (.bool true) ∧ Below w.heap.size w w' := by
  obtain ⟨k, h⟩ := hA
  have hu55 := Tryd.underlying26
  have hst : (st == st) = true := beq_iff_eq.2 rfl
  have hru : (ru == ru) = true := beq_iff_eq.2 rfl
  replace h := Aside0.mk h
  replace hex := Aside0.mk hex
  go_enter Tryd.func35, Tryd.ntmps35
  go_upto_region 2 with (first | (go_at_call 34; refine (crossbarlaw08_example.calls l0 _ hex.out).mono ?_; rintro e W1 ⟨v0, rfl, hR, hB1⟩; obtain ⟨A0, c0, rfl, hl0, hC0⟩ := Kd.R_reads hR; clear hR; replace hC0 := Aside0.mk hC0; replace hl0 := Aside0.mk hl0; replace hB1 := Aside0.mk hB1) | (go_at_call 16; refine (dialplan_Analyze.calls k A0 c0 l0 s fin st ru 0 _ hC0.out hl0.out h.out).mono ?_; rintro e W2 ⟨rfl, hB2⟩; replace hB2 := Aside0.mk hB2))
  obtain ⟨W3, hW3⟩ : ∃ W3, W2.alloc (.cells #[.int .i64 st, .int .i64 ru] 26) = W3 := ⟨_, rfl⟩
  rw [hW3]
  have hb9 : W3.heap[W2.heap.size]? = some (.cells #[.int .i64 st, .int .i64 ru] 26 (0, 0)) := by rw [← hW3]; exact blk_new _ _
  have e0 : W3.cell? ⟨W2.heap.size, 0, none⟩ = some (.int .i64 st) := (blk_cell hb9 0).trans rfl
  have e1 : W3.cell? ⟨W2.heap.size, 1, none⟩ = some (.int .i64 ru) := (blk_cell hb9 1).trans rfl
  have hB3 : Below w.heap.size w W3 := by rw [← hW3]; exact below_alloc (below_step hB1.out hB2.out) _
  replace hB3 := Aside0.mk hB3
  clear hW3 hb9 hB1 hB2 hC0 hl0
  go_wp2
  go_ret
  exact ⟨rfl, hB3.out⟩

theorem ev_some {α : Type} {f : Nat → Option α} {r r' : α} (h : Ev f r) (e : r = r') : ∃ k, f k = some r' := by
  subst e
  obtain ⟨k, hk⟩ := h
  exact ⟨k, hk k (Nat.le_refl _)⟩

set_option maxHeartbeats 4000000 in
set_option maxRecDepth 100000 in
theorem saneD_in (l0 : Rl) (hex : crossbarlaw08_example.f = some l0) (hchk : dialplan_Check.f l0 = some 0)
    (hA : ∀ (s : ByteArray) (fin : Bool) (st ru : Int), s.size ≤ 100 → anaI l0 s fin = (st, ru, 0) → ∃ k, dialplan_Analyze.f k l0 s fin = some (st, ru, 0))
    (hF : ∃ k, dialplan_Feed.f k l0 ⟨#[49, 49, 50, 53]⟩ = some (3, 2, 0, 0))
    (i1 : anaI l0 ⟨#[49]⟩ false = (1, 0, 0)) (i2 : anaI l0 ⟨#[49, 49]⟩ false = (1, 0, 0)) (i3 : anaI l0 ⟨#[49, 49, 50]⟩ false = (2, 0, 0)) (i4 : anaI l0 ⟨#[50]⟩ false = (1, 1, 0)) (i5 : anaI l0 ⟨#[50, 57]⟩ false = (3, 2, 0)) (i6 : anaI l0 ⟨#[50, 49, 50, 51, 52, 53]⟩ false = (1, 1, 0)) (i7 : anaI l0 ⟨#[51]⟩ false = (3, -1, 0)) (i8 : anaI l0 ⟨#[50, 49, 50, 51, 52, 53]⟩ true = (2, 1, 0)) (w : World) :
    Calls Tryd.prog 14 #[] w fun e w' => e = .returned (.bool true) ∧ Below w.heap.size w w' := by
  have hu55 := Tryd.underlying26
  obtain ⟨kF, hF⟩ := hF
  have j1 := Aside0.mk (is_in l0 hex _ _ _ _ (hA _ _ _ _ (by decide) i1))
  have j2 := Aside0.mk (is_in l0 hex _ _ _ _ (hA _ _ _ _ (by decide) i2))
  have j3 := Aside0.mk (is_in l0 hex _ _ _ _ (hA _ _ _ _ (by decide) i3))
  have j4 := Aside0.mk (is_in l0 hex _ _ _ _ (hA _ _ _ _ (by decide) i4))
  have j5 := Aside0.mk (is_in l0 hex _ _ _ _ (hA _ _ _ _ (by decide) i5))
  have j6 := Aside0.mk (is_in l0 hex _ _ _ _ (hA _ _ _ _ (by decide) i6))
  have j7 := Aside0.mk (is_in l0 hex _ _ _ _ (hA _ _ _ _ (by decide) i7))
  have j8 := Aside0.mk (is_in l0 hex _ _ _ _ (hA _ _ _ _ (by decide) i8))
  clear i1 i2 i3 i4 i5 i6 i7 i8 hA
  replace hF := Aside0.mk hF
  replace hex := Aside0.mk hex
  replace hchk := Aside0.mk hchk
  go_enter Tryd.func14, Tryd.ntmps14
  go_upto_region 2 with (first | (go_at_call 34; refine (crossbarlaw08_example.calls l0 _ hex.out).mono ?_; rintro e W1 ⟨v0, rfl, hR, hB1⟩; obtain ⟨A0, c0, rfl, hl0, hC0⟩ := Kd.R_reads hR; clear hR; replace hC0 := Aside0.mk hC0; replace hl0 := Aside0.mk hl0; replace hB1 := Aside0.mk hB1) | (go_at_call 33; refine (dialplan_Feed.calls kF A0 c0 l0 ⟨#[49, 49, 50, 53]⟩ 3 2 0 0 _ hC0.out hl0.out hF.out).mono ?_; rintro e W2 ⟨rfl, hB2⟩; replace hB2 := Aside0.mk hB2))
  obtain ⟨W3, hW3⟩ : ∃ W3, W2.alloc (.cells #[.int .i64 2, .int .i64 0] 26) = W3 := ⟨_, rfl⟩
  rw [hW3]
  have hb9 : W3.heap[W2.heap.size]? = some (.cells #[.int .i64 2, .int .i64 0] 26 (0, 0)) := by rw [← hW3]; exact blk_new _ _
  have hB3 : Below w.heap.size w W3 := by rw [← hW3]; exact below_alloc (below_step hB1.out hB2.out) _
  obtain ⟨b2, hb2⟩ : ∃ b2, b2 = W2.heap.size := ⟨_, rfl⟩
  rw [← hb2] at hb9 ⊢
  have dispose : ∀ W9, Below W3.heap.size W3 W9 → Below w.heap.size w W9 ∧ W9.cell? ⟨b2, 0, none⟩ = some (.int .i64 2) := by
    intro W9 hB
    exact ⟨below_step hB3 hB, (blk_cell (blk_below hb9 hB) 0).trans rfl⟩
  replace dispose := Aside0.mk dispose
  clear hW3 hb9 hb2 hB1 hB2 hC0 hl0 hF hB3
  go_wp2_with (go_at_call 9999; skip)
  refine (j1.out _).mono ?_
  rintro e W4 ⟨rfl, hB4⟩
  have hB4 := Aside0.mk hB4
  dsimp only
  go_wp2_with (go_at_call 9999; skip)
  refine (j2.out _).mono ?_
  rintro e W5 ⟨rfl, hB5⟩
  have hB5 := Aside0.mk (below_step hB4.out hB5)
  dsimp only
  go_wp2_with (go_at_call 9999; skip)
  refine (j3.out _).mono ?_
  rintro e W6 ⟨rfl, hB6⟩
  have hB6 := Aside0.mk (below_step hB5.out hB6)
  dsimp only
  go_wp2_with (go_at_call 9999; skip)
  refine (j4.out _).mono ?_
  rintro e W7 ⟨rfl, hB7⟩
  have hB7 := Aside0.mk (below_step hB6.out hB7)
  dsimp only
  go_wp2_with (go_at_call 9999; skip)
  refine (j5.out _).mono ?_
  rintro e W8 ⟨rfl, hB8⟩
  have hB8 := Aside0.mk (below_step hB7.out hB8)
  dsimp only
  go_wp2_with (go_at_call 9999; skip)
  refine (j6.out _).mono ?_
  rintro e W9 ⟨rfl, hB9⟩
  have hB9 := Aside0.mk (below_step hB8.out hB9)
  dsimp only
  go_wp2_with (go_at_call 9999; skip)
  refine (j7.out _).mono ?_
  rintro e W10 ⟨rfl, hB10⟩
  have hB10 := Aside0.mk (below_step hB9.out hB10)
  clear hB4 hB5 hB6 hB7 hB8 hB9
  dsimp only
  go_wp2_with (go_at_call 9999; skip)
  refine (j8.out _).mono ?_
  rintro e W11 ⟨rfl, hB11⟩
  have hB11 := below_step hB10.out hB11
  obtain ⟨_, hc11⟩ := dispose.out W11 hB11
  have hB11 := Aside0.mk hB11
  dsimp only
  go_wp2_with (go_at_call 9999; skip)
  refine (crossbarlaw08_example.calls l0 _ hex.out).mono ?_
  rintro e W12 ⟨v0, rfl, hR, hB12⟩
  obtain ⟨A1, c1, rfl, hl1, hC1⟩ := Kd.R_reads hR
  clear hR
  have hB12 := Aside0.mk (below_step hB11.out hB12)
  replace hC1 := Aside0.mk hC1
  replace hl1 := Aside0.mk hl1
  dsimp only
  go_wp2_with (go_at_call 9999; skip)
  refine (dialplan_Check.calls _ _ l0 0 _ hC1.out hl1.out hchk.out).mono ?_
  rintro e W13 ⟨rfl, hB13⟩
  have hB13 := below_step hB12.out hB13
  obtain ⟨hBe, _⟩ := dispose.out W13 hB13
  replace hBe := Aside0.mk hBe
  dsimp only
  go_wp2
  go_ret
  exact ⟨rfl, hBe.out⟩

def exL : Rl := [⟨⟨#[49]⟩, 3, 3, 2⟩, ⟨⟨#[50]⟩, 5, 7, 1⟩, ⟨⟨#[50, 57]⟩, 2, 2, 4⟩]
theorem exL_is : crossbarlaw08_example.f = some exL := rfl
theorem exL_chk : dialplan_Check.f exL = some 0 := congrArg some (by decide +kernel)
theorem exF : feedV exL ⟨#[49, 49, 50, 53]⟩ = (3, 2, 0, 0) := by decide +kernel
theorem ex1 : anaI exL ⟨#[49]⟩ false = (1, 0, 0) := by decide +kernel
theorem ex2 : anaI exL ⟨#[49, 49]⟩ false = (1, 0, 0) := by decide +kernel
theorem ex3 : anaI exL ⟨#[49, 49, 50]⟩ false = (2, 0, 0) := by decide +kernel
theorem ex4 : anaI exL ⟨#[50]⟩ false = (1, 1, 0) := by decide +kernel
theorem ex5 : anaI exL ⟨#[50, 57]⟩ false = (3, 2, 0) := by decide +kernel
theorem ex6 : anaI exL ⟨#[50, 49, 50, 51, 52, 53]⟩ false = (1, 1, 0) := by decide +kernel
theorem ex7 : anaI exL ⟨#[51]⟩ false = (3, -1, 0) := by decide +kernel
theorem ex8 : anaI exL ⟨#[50, 49, 50, 51, 52, 53]⟩ true = (2, 1, 0) := by decide +kernel
def crossbarlaw08_sane.f : Option Bool := some true
theorem crossbarlaw08_sane.calls (r : Bool) (w : World) (h : crossbarlaw08_sane.f = some r) : Calls Tryd.prog 14 #[] w fun e w' => e = .returned (.bool r) ∧ Below w.heap.size w w' := by
  obtain rfl : true = r := Option.some.inj h
  exact saneD_in exL exL_is exL_chk (fun s fin st ru hs e => ev_some (Analyze_evI exL s fin (by omega)) e) (ev_some (Feed_ev exL _ (by decide)) exF) ex1 ex2 ex3 ex4 ex5 ex6 ex7 ex8 w

end Go.Proofs.YthknfclhkmehgaaDoor.Fn
