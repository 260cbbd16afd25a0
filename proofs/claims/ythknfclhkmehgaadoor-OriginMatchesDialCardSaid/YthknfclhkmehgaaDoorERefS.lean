/-
  crossbarref16's small functions: the walks.
  crossbarref16.decide: the walk.
  crossbarref16.digit: the walk.
  crossbarref16.collecting: the walk.
  crossbarref16.Step: the walk.
-/
import Derived.Test.YthknfclhkmehgaaDoorEOrig
import Derived.Test.YthknfclhkmehgaaDoorEStep
import Derived.Test.YthknfclhkmehgaaDoorFn6
import Derived.Test.YthknfclhkmehgaaDoorFn7
namespace Go.Proofs.YthknfclhkmehgaaDoor.Fn
open Go.RowKit Go.Maps Go.Proofs.YthknfclhkmehgaaDoorW.PrintWords Go.Proofs.YthknfclhkmehgaaDoorW.PrintLast Go.Proofs.YthknfclhkmehgaaDoorW.PrintMore
set_option linter.unusedVariables false
set_option linter.unusedSimpArgs false

theorem act_end_act {Post : Ending → World → Prop} {W : World} {a : Act} {b : Nat} {x0 x1 x3 : Int} {x2 : ByteArray} (h : W.heap[b]? = some (.cells #[.int .i64 x0, .int .i64 x1, .string x2, .int .i64 x3] 62 (0, 0))) (h6 : a.tmps[2]? = some (.pointer (some ⟨b, 0, none⟩))) (hd : a.defers = []) (hP : Post (.returned (.agg #[.int .i64 x0, .int .i64 x1, .string x2, .int .i64 x3])) W) :
    bodyPost Tryd.prog Tryd.f54 Post Exit.ret a W := by
  have hu62 := Tryd.underlying62
  have hc0 : W.cell? ⟨b, 0, none⟩ = some (.int .i64 x0) := (blk_cell h 0).trans rfl
  have hc1 : W.cell? ⟨b, 1, none⟩ = some (.int .i64 x1) := (blk_cell h 1).trans rfl
  have hc2 : W.cell? ⟨b, 2, none⟩ = some (.string x2) := (blk_cell h 2).trans rfl
  have hc3 : W.cell? ⟨b, 3, none⟩ = some (.int .i64 x3) := (blk_cell h 3).trans rfl
  refine bodyPost_ret (v := .agg #[.int .i64 x0, .int .i64 x1, .string x2, .int .i64 x3]) ?_ hd hP
  obtain ⟨tmps, defers⟩ := a
  dsimp only at h6
  simp [results, Tryd.f54, go_sem, hc0, hc1, hc2, hc3, h6, hu62]

set_option maxHeartbeats 4000000 in
set_option maxRecDepth 100000 in
theorem actR_in (kk : Int) (w : World) : Calls Tryd.prog 54 #[.int .i64 kk] w fun e w' => e = .returned (.agg #[.int .i64 kk, .int .i64 0, .string ⟨#[]⟩, .int .i64 0]) ∧ Below w.heap.size w w' := by
  have hu62 := Tryd.underlying62
  go_enter Tryd.func54, Tryd.ntmps54
  go_upto_region 1 with (fail)
  obtain ⟨W0, hW0⟩ : ∃ W0, w.alloc (.cells #[.int .i64 0, .int .i64 0, .string ⟨#[]⟩, .int .i64 0] 62) = W0 := ⟨_, rfl⟩
  rw [hW0]
  have k2 : W0.heap[w.heap.size]? = some (.cells #[.int .i64 0, .int .i64 0, .string ⟨#[]⟩, .int .i64 0] 62 (0, 0)) := by rw [← hW0]; exact blk_new _ _
  have hB : Below w.heap.size w W0 := by rw [← hW0]; exact below_alloc (Below.refl _ _) _
  obtain ⟨b, hb⟩ : ∃ b, w.heap.size = b := ⟨_, rfl⟩
  rw [hb] at k2 ⊢
  have hge : w.heap.size ≤ b := Nat.le_of_eq hb
  have e0 : W0.cell? ⟨b, 0, none⟩ = some (.int .i64 0) := (blk_cell k2 0).trans rfl
  have e1 : W0.cell? ⟨b, 1, none⟩ = some (.int .i64 0) := (blk_cell k2 1).trans rfl
  have e2 : W0.cell? ⟨b, 2, none⟩ = some (.string ⟨#[]⟩) := (blk_cell k2 2).trans rfl
  have e3 : W0.cell? ⟨b, 3, none⟩ = some (.int .i64 0) := (blk_cell k2 3).trans rfl
  have f0 : W0.frozen? ⟨b, 0, none⟩ = false := blk_frozen k2 0
  have f1 : W0.frozen? ⟨b, 1, none⟩ = false := blk_frozen k2 1
  have f2 : W0.frozen? ⟨b, 2, none⟩ = false := blk_frozen k2 2
  have f3 : W0.frozen? ⟨b, 3, none⟩ = false := blk_frozen k2 3
  clear hW0
  replace k2 := Aside0.mk k2
  replace hB := Aside0.mk hB
  replace hb := Aside0.mk hb
  replace hge := Aside0.mk hge
  go_wp2
  exact act_end_act (blk_put (blk_put (blk_put (blk_put k2.out 0 _ rfl) 1 _ rfl) 2 _ rfl) 3 _ rfl) rfl rfl ⟨rfl, below_set (below_set (below_set (below_set hB.out hge.out) hge.out) hge.out) hge.out⟩

theorem act_end_tone {Post : Ending → World → Prop} {W : World} {a : Act} {b : Nat} {x0 x1 x3 : Int} {x2 : ByteArray} (h : W.heap[b]? = some (.cells #[.int .i64 x0, .int .i64 x1, .string x2, .int .i64 x3] 62 (0, 0))) (h6 : a.tmps[2]? = some (.pointer (some ⟨b, 0, none⟩))) (hd : a.defers = []) (hP : Post (.returned (.agg #[.int .i64 x0, .int .i64 x1, .string x2, .int .i64 x3])) W) :
    bodyPost Tryd.prog Tryd.f56 Post Exit.ret a W := by
  have hu62 := Tryd.underlying62
  have hc0 : W.cell? ⟨b, 0, none⟩ = some (.int .i64 x0) := (blk_cell h 0).trans rfl
  have hc1 : W.cell? ⟨b, 1, none⟩ = some (.int .i64 x1) := (blk_cell h 1).trans rfl
  have hc2 : W.cell? ⟨b, 2, none⟩ = some (.string x2) := (blk_cell h 2).trans rfl
  have hc3 : W.cell? ⟨b, 3, none⟩ = some (.int .i64 x3) := (blk_cell h 3).trans rfl
  refine bodyPost_ret (v := .agg #[.int .i64 x0, .int .i64 x1, .string x2, .int .i64 x3]) ?_ hd hP
  obtain ⟨tmps, defers⟩ := a
  dsimp only at h6
  simp [results, Tryd.f56, go_sem, hc0, hc1, hc2, hc3, h6, hu62]

set_option maxHeartbeats 4000000 in
set_option maxRecDepth 100000 in
theorem toneR_in (ca : Int) (w : World) : Calls Tryd.prog 56 #[.int .i64 ca] w fun e w' => e = .returned (.agg #[.int .i64 3, .int .i64 ca, .string ⟨#[]⟩, .int .i64 0]) ∧ Below w.heap.size w w' := by
  have hu62 := Tryd.underlying62
  go_enter Tryd.func56, Tryd.ntmps56
  go_upto_region 1 with (fail)
  obtain ⟨W0, hW0⟩ : ∃ W0, w.alloc (.cells #[.int .i64 0, .int .i64 0, .string ⟨#[]⟩, .int .i64 0] 62) = W0 := ⟨_, rfl⟩
  rw [hW0]
  have k2 : W0.heap[w.heap.size]? = some (.cells #[.int .i64 0, .int .i64 0, .string ⟨#[]⟩, .int .i64 0] 62 (0, 0)) := by rw [← hW0]; exact blk_new _ _
  have hB : Below w.heap.size w W0 := by rw [← hW0]; exact below_alloc (Below.refl _ _) _
  obtain ⟨b, hb⟩ : ∃ b, w.heap.size = b := ⟨_, rfl⟩
  rw [hb] at k2 ⊢
  have hge : w.heap.size ≤ b := Nat.le_of_eq hb
  have e0 : W0.cell? ⟨b, 0, none⟩ = some (.int .i64 0) := (blk_cell k2 0).trans rfl
  have e1 : W0.cell? ⟨b, 1, none⟩ = some (.int .i64 0) := (blk_cell k2 1).trans rfl
  have e2 : W0.cell? ⟨b, 2, none⟩ = some (.string ⟨#[]⟩) := (blk_cell k2 2).trans rfl
  have e3 : W0.cell? ⟨b, 3, none⟩ = some (.int .i64 0) := (blk_cell k2 3).trans rfl
  have f0 : W0.frozen? ⟨b, 0, none⟩ = false := blk_frozen k2 0
  have f1 : W0.frozen? ⟨b, 1, none⟩ = false := blk_frozen k2 1
  have f2 : W0.frozen? ⟨b, 2, none⟩ = false := blk_frozen k2 2
  have f3 : W0.frozen? ⟨b, 3, none⟩ = false := blk_frozen k2 3
  clear hW0
  replace k2 := Aside0.mk k2
  replace hB := Aside0.mk hB
  replace hb := Aside0.mk hb
  replace hge := Aside0.mk hge
  go_wp2
  exact act_end_tone (blk_put (blk_put (blk_put (blk_put k2.out 0 _ rfl) 1 _ rfl) 2 _ rfl) 3 _ rfl) rfl rfl ⟨rfl, below_set (below_set (below_set (below_set hB.out hge.out) hge.out) hge.out) hge.out⟩

theorem act_end_timer {Post : Ending → World → Prop} {W : World} {a : Act} {b : Nat} {x0 x1 x3 : Int} {x2 : ByteArray} (h : W.heap[b]? = some (.cells #[.int .i64 x0, .int .i64 x1, .string x2, .int .i64 x3] 62 (0, 0))) (h6 : a.tmps[0]? = some (.pointer (some ⟨b, 0, none⟩))) (hd : a.defers = []) (hP : Post (.returned (.agg #[.int .i64 x0, .int .i64 x1, .string x2, .int .i64 x3])) W) :
    bodyPost Tryd.prog Tryd.f55 Post Exit.ret a W := by
  have hu62 := Tryd.underlying62
  have hc0 : W.cell? ⟨b, 0, none⟩ = some (.int .i64 x0) := (blk_cell h 0).trans rfl
  have hc1 : W.cell? ⟨b, 1, none⟩ = some (.int .i64 x1) := (blk_cell h 1).trans rfl
  have hc2 : W.cell? ⟨b, 2, none⟩ = some (.string x2) := (blk_cell h 2).trans rfl
  have hc3 : W.cell? ⟨b, 3, none⟩ = some (.int .i64 x3) := (blk_cell h 3).trans rfl
  refine bodyPost_ret (v := .agg #[.int .i64 x0, .int .i64 x1, .string x2, .int .i64 x3]) ?_ hd hP
  obtain ⟨tmps, defers⟩ := a
  dsimp only at h6
  simp [results, Tryd.f55, go_sem, hc0, hc1, hc2, hc3, h6, hu62]

set_option maxHeartbeats 4000000 in
set_option maxRecDepth 100000 in
theorem timerR_in (w : World) : Calls Tryd.prog 55 #[] w fun e w' => e = .returned (.agg #[.int .i64 9, .int .i64 0, .string ⟨#[]⟩, .int .i64 10]) ∧ Below w.heap.size w w' := by
  have hu62 := Tryd.underlying62
  go_enter Tryd.func55, Tryd.ntmps55
  go_upto_region 1 with (fail)
  obtain ⟨W0, hW0⟩ : ∃ W0, w.alloc (.cells #[.int .i64 0, .int .i64 0, .string ⟨#[]⟩, .int .i64 0] 62) = W0 := ⟨_, rfl⟩
  rw [hW0]
  have k2 : W0.heap[w.heap.size]? = some (.cells #[.int .i64 0, .int .i64 0, .string ⟨#[]⟩, .int .i64 0] 62 (0, 0)) := by rw [← hW0]; exact blk_new _ _
  have hB : Below w.heap.size w W0 := by rw [← hW0]; exact below_alloc (Below.refl _ _) _
  obtain ⟨b, hb⟩ : ∃ b, w.heap.size = b := ⟨_, rfl⟩
  rw [hb] at k2 ⊢
  have hge : w.heap.size ≤ b := Nat.le_of_eq hb
  have e0 : W0.cell? ⟨b, 0, none⟩ = some (.int .i64 0) := (blk_cell k2 0).trans rfl
  have e1 : W0.cell? ⟨b, 1, none⟩ = some (.int .i64 0) := (blk_cell k2 1).trans rfl
  have e2 : W0.cell? ⟨b, 2, none⟩ = some (.string ⟨#[]⟩) := (blk_cell k2 2).trans rfl
  have e3 : W0.cell? ⟨b, 3, none⟩ = some (.int .i64 0) := (blk_cell k2 3).trans rfl
  have f0 : W0.frozen? ⟨b, 0, none⟩ = false := blk_frozen k2 0
  have f1 : W0.frozen? ⟨b, 1, none⟩ = false := blk_frozen k2 1
  have f2 : W0.frozen? ⟨b, 2, none⟩ = false := blk_frozen k2 2
  have f3 : W0.frozen? ⟨b, 3, none⟩ = false := blk_frozen k2 3
  clear hW0
  replace k2 := Aside0.mk k2
  replace hB := Aside0.mk hB
  replace hb := Aside0.mk hb
  replace hge := Aside0.mk hge
  go_wp2
  exact act_end_timer (blk_put (blk_put (blk_put (blk_put k2.out 0 _ rfl) 1 _ rfl) 2 _ rfl) 3 _ rfl) rfl rfl ⟨rfl, below_set (below_set (below_set (below_set hB.out hge.out) hge.out) hge.out) hge.out⟩

set_option maxHeartbeats 4000000 in
set_option maxRecDepth 100000 in
theorem EventR_in (ek ec ed : Int) (w : World) : Calls Tryd.prog 52 #[.agg #[.int .i64 ek, .int .i64 ec, .int .u8 ed]] w fun e w' => e = .returned (.bool (!badE ek ec ed)) ∧ Below w.heap.size w w' := by
  have hu47 := Tryd.underlying47
  obtain ⟨r, hr⟩ : ∃ r, r = !badE ek ec ed := ⟨_, rfl⟩
  rw [← hr]
  go_enter Tryd.func52, Tryd.ntmps52
  go_upto_region 1 with (fail)
  obtain ⟨W0, hW0⟩ : ∃ W0, w.alloc (.cells #[.int .i64 ek, .int .i64 ec, .int .u8 ed] 47) = W0 := ⟨_, rfl⟩
  rw [hW0]
  have k1 : W0.heap[w.heap.size]? = some (.cells #[.int .i64 ek, .int .i64 ec, .int .u8 ed] 47 (0, 0)) := by rw [← hW0]; exact blk_new _ _
  have hB := Aside0.mk (show Below w.heap.size w W0 by rw [← hW0]; exact below_alloc (Below.refl _ _) _)
  obtain ⟨b, hb⟩ : ∃ b, w.heap.size = b := ⟨_, rfl⟩
  rw [hb] at k1 ⊢
  have e0 : W0.cell? ⟨b, 0, none⟩ = some (.int .i64 ek) := (blk_cell k1 0).trans rfl
  have e1 : W0.cell? ⟨b, 1, none⟩ = some (.int .i64 ec) := (blk_cell k1 1).trans rfl
  have e2 : W0.cell? ⟨b, 2, none⟩ = some (.int .u8 ed) := (blk_cell k1 2).trans rfl
  clear hW0 hb k1
  unfold badE at hr
  by_cases h1 : ek < 1
  · have d1 : decide (ek < 1) = true := decide_eq_true h1
    clear h1
    obtain rfl : r = false := hr.trans (by rw [d1]; rfl)
    clear hr
    go_wp2
    go_ret
    exact ⟨rfl, hB.out⟩
  have d1 : decide (ek < 1) = false := decide_eq_false h1
  by_cases h2 : 12 < ek
  · have d2 : decide (12 < ek) = true := decide_eq_true h2
    clear h1 h2
    obtain rfl : r = false := hr.trans (by rw [d1, d2]; rfl)
    clear hr
    go_wp2
    go_ret
    exact ⟨rfl, hB.out⟩
  have d2 : decide (12 < ek) = false := decide_eq_false h2
  clear h1 h2
  by_cases h3 : ek = 3
  · subst h3
    by_cases h4 : ed < 48
    · have d4 : decide (ed < 48) = true := decide_eq_true h4
      clear h4
      obtain rfl : r = false := hr.trans (by rw [d4]; rfl)
      clear hr
      go_wp2
      go_ret
      exact ⟨rfl, hB.out⟩
    have d4 : decide (ed < 48) = false := decide_eq_false h4
    by_cases h5 : 57 < ed
    · have d5 : decide (57 < ed) = true := decide_eq_true h5
      clear h4 h5
      obtain rfl : r = false := hr.trans (by rw [d4, d5]; rfl)
      clear hr
      go_wp2
      go_ret
      exact ⟨rfl, hB.out⟩
    have d5 : decide (57 < ed) = false := decide_eq_false h5
    clear h4 h5
    obtain rfl : r = true := hr.trans (by rw [d4, d5]; rfl)
    clear hr
    go_wp2
    go_ret
    exact ⟨rfl, hB.out⟩
  have d3 : (ek == 3) = false := beq_eq_false_iff_ne.2 h3
  have dd3 : decide (ek = 3) = false := decide_eq_false h3
  clear h3
  by_cases h9 : ek = 9
  · subst h9
    by_cases h4 : 1 ≤ ec
    · have g4 : decide (1 ≤ ec) = true := decide_eq_true h4
      have g41 : decide (ec < 1) = false := decide_eq_false (by omega)
      by_cases h5 : ec ≤ 127
      · have g5 : decide (ec ≤ 127) = true := decide_eq_true h5
        have g51 : decide (127 < ec) = false := decide_eq_false (by omega)
        clear h4 h5
        obtain rfl : r = true := hr.trans (by rw [g41, g51]; rfl)
        clear hr
        go_wp2
        go_ret
        exact ⟨rfl, hB.out⟩
      · have g5 : decide (ec ≤ 127) = false := decide_eq_false h5
        have g51 : decide (127 < ec) = true := decide_eq_true (by omega)
        clear h4 h5
        obtain rfl : r = false := hr.trans (by rw [g41, g51]; rfl)
        clear hr
        go_wp2
        go_ret
        exact ⟨rfl, hB.out⟩
    · have g4 : decide (1 ≤ ec) = false := decide_eq_false h4
      have g41 : decide (ec < 1) = true := decide_eq_true (by omega)
      clear h4
      obtain rfl : r = false := hr.trans (by rw [g41]; rfl)
      clear hr
      go_wp2
      go_ret
      exact ⟨rfl, hB.out⟩
  have d9 : (ek == 9) = false := beq_eq_false_iff_ne.2 h9
  have dn9 : (ek != 9) = true := bne_iff_ne.2 h9
  have dd9 : decide (ek = 9) = false := decide_eq_false h9
  clear h9
  obtain rfl : r = true := hr.trans (by rw [d1, d2, dd3, dd9]; rfl)
  clear hr
  go_wp2
  go_ret
  exact ⟨rfl, hB.out⟩

end Go.Proofs.YthknfclhkmehgaaDoor.Fn
namespace Go.Proofs.YthknfclhkmehgaaDoor.Fn
open Go.RowKit Go.Maps Go.Proofs.YthknfclhkmehgaaDoorW.PrintWords Go.Proofs.YthknfclhkmehgaaDoorW.PrintLast Go.Proofs.YthknfclhkmehgaaDoorW.PrintMore
set_option linter.unusedVariables false
set_option linter.unusedSimpArgs false

theorem dec_end {Post : Ending → World → Prop} {W : World} {a : Act} {b : Nat} {s : Int} {dd : ByteArray} {v : Value} (h : W.heap[b]? = some (.cells #[.int .i64 s, .string dd] 45 (0, 0))) (h6 : a.tmps[8]? = some (.pointer (some ⟨b, 0, none⟩))) (h7 : a.tmps[9]? = some v) (hd : a.defers = []) (hP : Post (.returned (.tuple #[.agg #[.int .i64 s, .string dd], v])) W) :
    bodyPost Tryd.prog Tryd.f78 Post Exit.ret a W := by
  have hu45 := Tryd.underlying45
  have hc0 : W.cell? ⟨b, 0, none⟩ = some (.int .i64 s) := (blk_cell h 0).trans rfl
  have hc1 : W.cell? ⟨b, 1, none⟩ = some (.string dd) := (blk_cell h 1).trans rfl
  refine bodyPost_ret (v := .tuple #[.agg #[.int .i64 s, .string dd], v]) ?_ hd hP
  obtain ⟨tmps, defers⟩ := a
  dsimp only at h6 h7
  simp [results, Tryd.f78, go_sem, hc0, hc1, h6, h7, hu45]
set_option maxHeartbeats 8000000 in
set_option maxRecDepth 100000 in
theorem decR_in (w0 w : World) (hBw : Below w0.heap.size w0 w) (Av : Option Addr) (Lv cv : Nat) (acts : Al) (hRv : Kd.R k62 62 w w0.heap.size (fun _ => True) (.slice Av Lv cv) acts) (hl : acts.length < 900) (A0 : Option Addr) (c0 : Nat) (l0 : Rl) (hr0 : Kd.C k35 w0 A0 l0.length l0) (hc0 : l0.length ≤ c0) (d : ByteArray) (x y : Int) (hxy : x = 2 → 0 ≤ y ∧ y < (l0.length : Int)) (o : O3) (ho : o = decP l0 d x y acts) :
    Calls Tryd.prog 78 #[.slice Av Lv cv, .slice A0 l0.length c0, .string d, .agg #[.int .i64 x, .int .i64 y]] w fun e w' => ∃ v2_, e = .returned (.tuple #[.agg #[.int .i64 o.1, .string o.2.1], v2_]) ∧ Kd.R k62 62 w' w0.heap.size (fun _ => True) v2_ o.2.2 ∧ Below w0.heap.size w0 w' := by
  have hu26 := Tryd.underlying26
  have hu35 := Tryd.underlying35
  have hu45 := Tryd.underlying45
  have hu62 := Tryd.underlying62
  replace hl := Aside0.mk hl
  have HC0 := Aside0.mk hc0
  have HRw := Aside0.mk (Kd.C_below hr0 hBw)
  have hsz := Aside0.mk (below_size hBw)
  clear hr0 hc0
  go_enter Tryd.func78, Tryd.ntmps78
  go_upto_region 1 with (fail)
  obtain ⟨W0, hW0⟩ : ∃ W0, (w.alloc (.cells #[.int .i64 x, .int .i64 y] 26)).alloc (.cells #[.int .i64 0, .string ⟨#[]⟩] 45) = W0 := ⟨_, rfl⟩
  rw [hW0]
  obtain ⟨b8, hb8⟩ : ∃ b8, b8 = w.heap.size + 1 := ⟨_, rfl⟩
  rw [← hb8]
  have hBl : Below w.heap.size w W0 := by rw [← hW0]; exact below_alloc (below_alloc (Below.refl _ _) _) _
  have hk7 : W0.heap[w.heap.size]? = some (.cells #[.int .i64 x, .int .i64 y] 26 (0, 0)) := by rw [← hW0]; exact blk_alloc (blk_new w _) _
  have k8 : W0.heap[b8]? = some (.cells #[.int .i64 0, .string ⟨#[]⟩] 45 (0, 0)) := by
    have h1 := blk_new (w.alloc (.cells #[.int .i64 x, .int .i64 y] 26)) (.cells #[.int .i64 0, .string ⟨#[]⟩] 45)
    rw [World.size_alloc, ← hb8] at h1
    rw [← hW0]
    exact h1
  have g8 := Aside0.mk (show w0.heap.size ≤ b8 by have := hsz.out; omega)
  obtain ⟨b7, hb7⟩ : ∃ b7, w.heap.size = b7 := ⟨_, rfl⟩
  rw [hb7] at hk7 ⊢
  have e70 : W0.cell? ⟨b7, 0, none⟩ = some (.int .i64 x) := (blk_cell hk7 0).trans rfl
  have e71 : W0.cell? ⟨b7, 1, none⟩ = some (.int .i64 y) := (blk_cell hk7 1).trans rfl
  have HR0 := Aside0.mk (Kd.C_below HRw.out hBl)
  have hR := Aside0.mk (Kd.R_below hRv hBl)
  have hB := Aside0.mk (below_then hBw hBw.size hBl)
  replace k8 := Aside0.mk k8
  clear hW0 hb8 hb7 hBl hk7 hRv hBw HRw hsz
  unfold decP at ho
  by_cases hx : x = 2
  · subst hx
    obtain ⟨p0, p1⟩ := hxy rfl
    obtain ⟨ad, ead, hx0, hx1, hx2, hx3⟩ := at_T35 HR0.out y p0 p1
    cases ead
    obtain ⟨⟨p, mi, mx, rk⟩, hrd⟩ : ∃ q, q = rd_T35 l0 y := ⟨_, rfl⟩
    rw [← hrd] at hx0 hx1 hx2 hx3 ho
    simp only at hx0 hx1 hx2 hx3
    clear hrd hx0 hx1 hx2 HR0
    replace p0 := eq_true p0
    replace p1 := eq_true p1
    rw [if_neg (by decide)] at ho
    by_cases hk : rk = 3
    · subst hk
      rw [if_pos rfl] at ho
      replace ho := Aside0.mk ho
      go_wp2_with (first | ((with_reducible refine gate_builtin (b := .append) (xs := #[.tmp 25, .tmp 28]) rfl ?_); at_builtin; refine Kd.R_append k62 (w0 := w0) w0.heap.size rfl (.tmp 25) (.tmp 28) 48 62 (.agg #[(.int .i64 0), (.int .i64 0), (.string ⟨#[]⟩), (.int .i64 0)]) 40 rfl Tryd.underlying48 info62 rfl (by decide) (by omega) (.slice Av Lv cv) acts ⟨6, 0, d, 0⟩ [.int .i64 6, .int .i64 0, .string d, .int .i64 0] (fun _ => True) (fun _ => False) rfl rfl ?aP (fun _ hk => hk.elim) ?aF ?aO ?aB ?aS ?aL ?_; (case aP => exact k62_mkM _ _ _ ⟨6, 0, d, 0⟩); (case aB => exact hB.out); (case aF => exact fun _ _ => trivial); (case aO => exact hR.out); (case aS => exact below_size hB.out); (case aL => have := hl.out; omega); intro v1 W1 ho_ hb hg hat; obtain ⟨A1_, L1_, c1_, hv_⟩ := R_shape ho_; subst hv_; replace k8 := Aside0.mk (blk_grown k8.out hg (Kd.R_ne hR.out k8.out (by decide))); replace hR := Aside0.mk ho_; replace hB := Aside0.mk hb; clear hg hat) | (go_at_call 56; refine (toneR_in 0 _).mono ?_; rintro e W2 ⟨rfl, hB1⟩; replace k8 := Aside0.mk (blk_below k8.out hB1); replace hR := Aside0.mk (Kd.R_below hR.out hB1); replace hB := Aside0.mk (below_then hB.out hB.out.size hB1); clear hB1) | ((with_reducible refine gate_builtin (b := .append) (xs := #[.tmp 31, .tmp 33]) rfl ?_); at_builtin; refine Kd.R_append k62 (w0 := w0) w0.heap.size rfl (.tmp 31) (.tmp 33) 48 62 (.agg #[(.int .i64 0), (.int .i64 0), (.string ⟨#[]⟩), (.int .i64 0)]) 40 rfl Tryd.underlying48 info62 rfl (by decide) (by omega) (.slice A1_ L1_ c1_) (acts ++ [⟨6, 0, d, 0⟩]) ⟨3, 0, ⟨#[]⟩, 0⟩ [.int .i64 3, .int .i64 0, .string ⟨#[]⟩, .int .i64 0] (fun _ => True) (fun _ => False) rfl rfl ?aP (fun _ hk => hk.elim) ?aF ?aO ?aB ?aS ?aL ?_; (case aP => exact k62_mkM _ _ _ ⟨3, 0, ⟨#[]⟩, 0⟩); (case aB => exact hB.out); (case aF => exact fun _ _ => trivial); (case aO => exact hR.out); (case aS => exact below_size hB.out); (case aL => rw [List.length_append]; have := hl.out; simp only [List.length_cons, List.length_nil]; omega); intro v3 W3 ho_ hb hg hat; obtain ⟨Ao_, Lo_, co_, hv_⟩ := R_shape ho_; subst hv_; replace k8 := Aside0.mk (blk_grown k8.out hg (Kd.R_ne hR.out k8.out (by decide))); replace hR := Aside0.mk ho_; replace hB := Aside0.mk hb; clear hg hat; have e80 : W3.cell? ⟨b8, 0, none⟩ = some (.int .i64 0) := (blk_cell k8.out 0).trans rfl; have e81 : W3.cell? ⟨b8, 1, none⟩ = some (.string ⟨#[]⟩) := (blk_cell k8.out 1).trans rfl; have f80 : W3.frozen? ⟨b8, 0, none⟩ = false := blk_frozen k8.out 0; have f81 : W3.frozen? ⟨b8, 1, none⟩ = false := blk_frozen k8.out 1))
      exact dec_end (blk_put (blk_put k8.out 0 (.int .i64 5) rfl) 1 (.string ⟨#[]⟩) rfl) rfl rfl rfl (by rw [ho.out]; exact ⟨_, rfl, Kd.R_set (Kd.R_set hR.out k8.out (by decide) 0 _) (blk_put k8.out 0 (.int .i64 5) rfl) (by decide) 1 _, below_set (below_set hB.out g8.out) g8.out⟩)
    · rw [if_neg hk] at ho
      replace ho := Aside0.mk ho
      have hkb : (rk == 3) = false := beq_eq_false_iff_ne.2 hk
      have hkd : decide (rk = 3) = false := decide_eq_false hk
      clear hk
      have e80 : W0.cell? ⟨b8, 0, none⟩ = some (.int .i64 0) := (blk_cell k8.out 0).trans rfl
      go_wp2_with (first | ((with_reducible refine gate_builtin (b := .append) (xs := #[.tmp 36, .tmp 41]) rfl ?_); at_builtin; refine Kd.R_append k62 (w0 := w0) w0.heap.size rfl (.tmp 36) (.tmp 41) 48 62 (.agg #[(.int .i64 0), (.int .i64 0), (.string ⟨#[]⟩), (.int .i64 0)]) 40 rfl Tryd.underlying48 info62 rfl (by decide) (by omega) (.slice Av Lv cv) acts ⟨5, 0, d, y⟩ [.int .i64 5, .int .i64 0, .string d, .int .i64 y] (fun _ => True) (fun _ => False) rfl rfl ?aP (fun _ hk => hk.elim) ?aF ?aO ?aB ?aS ?aL ?_; (case aP => exact k62_mkM _ _ _ ⟨5, 0, d, y⟩); (case aB => exact hB.out); (case aF => exact fun _ _ => trivial); (case aO => exact hR.out); (case aS => exact below_size hB.out); (case aL => have := hl.out; omega); intro v1 W1 ho_ hb hg hat; obtain ⟨Ao_, Lo_, co_, hv_⟩ := R_shape ho_; subst hv_; replace k8 := Aside0.mk (blk_grown k8.out hg (Kd.R_ne hR.out k8.out (by decide))); replace hR := Aside0.mk ho_; replace hB := Aside0.mk hb; clear hg hat; clear e80; have e80 : W1.cell? ⟨b8, 0, none⟩ = some (.int .i64 0) := (blk_cell k8.out 0).trans rfl; have e81 : W1.cell? ⟨b8, 1, none⟩ = some (.string ⟨#[]⟩) := (blk_cell k8.out 1).trans rfl; have f80 : W1.frozen? ⟨b8, 0, none⟩ = false := blk_frozen k8.out 0; have f81 : W1.frozen? ⟨b8, 1, none⟩ = false := blk_frozen k8.out 1))
      exact dec_end (blk_put (blk_put k8.out 0 (.int .i64 2) rfl) 1 (.string ⟨#[]⟩) rfl) rfl rfl rfl (by rw [ho.out]; exact ⟨_, rfl, Kd.R_set (Kd.R_set hR.out k8.out (by decide) 0 _) (blk_put k8.out 0 (.int .i64 2) rfl) (by decide) 1 _, below_set (below_set hB.out g8.out) g8.out⟩)
  · rw [if_pos hx] at ho
    replace ho := Aside0.mk ho
    have hxb : (x == 2) = false := beq_eq_false_iff_ne.2 hx
    have hxn : (x != 2) = true := bne_iff_ne.2 hx
    have hxd : decide (x = 2) = false := decide_eq_false hx
    clear hxy e71 HR0 hx
    go_wp2_with (first | (go_at_call 56; refine (toneR_in 28 _).mono ?_; rintro e W1 ⟨rfl, hB1⟩; replace k8 := Aside0.mk (blk_below k8.out hB1); replace hR := Aside0.mk (Kd.R_below hR.out hB1); replace hB := Aside0.mk (below_then hB.out hB.out.size hB1); clear hB1) | ((with_reducible refine gate_builtin (b := .append) (xs := #[.tmp 14, .tmp 16]) rfl ?_); at_builtin; refine Kd.R_append k62 (w0 := w0) w0.heap.size rfl (.tmp 14) (.tmp 16) 48 62 (.agg #[(.int .i64 0), (.int .i64 0), (.string ⟨#[]⟩), (.int .i64 0)]) 40 rfl Tryd.underlying48 info62 rfl (by decide) (by omega) (.slice Av Lv cv) acts ⟨3, 28, ⟨#[]⟩, 0⟩ [.int .i64 3, .int .i64 28, .string ⟨#[]⟩, .int .i64 0] (fun _ => True) (fun _ => False) rfl rfl ?aP (fun _ hk => hk.elim) ?aF ?aO ?aB ?aS ?aL ?_; (case aP => exact k62_mkM _ _ _ ⟨3, 28, ⟨#[]⟩, 0⟩); (case aB => exact hB.out); (case aF => exact fun _ _ => trivial); (case aO => exact hR.out); (case aS => exact below_size hB.out); (case aL => have := hl.out; omega); intro v1 W2 ho_ hb hg hat; obtain ⟨Ao_, Lo_, co_, hv_⟩ := R_shape ho_; subst hv_; replace k8 := Aside0.mk (blk_grown k8.out hg (Kd.R_ne hR.out k8.out (by decide))); replace hR := Aside0.mk ho_; replace hB := Aside0.mk hb; clear hg hat; have e80 : W2.cell? ⟨b8, 0, none⟩ = some (.int .i64 0) := (blk_cell k8.out 0).trans rfl; have e81 : W2.cell? ⟨b8, 1, none⟩ = some (.string ⟨#[]⟩) := (blk_cell k8.out 1).trans rfl; have f80 : W2.frozen? ⟨b8, 0, none⟩ = false := blk_frozen k8.out 0; have f81 : W2.frozen? ⟨b8, 1, none⟩ = false := blk_frozen k8.out 1))
    exact dec_end (blk_put (blk_put k8.out 0 (.int .i64 5) rfl) 1 (.string ⟨#[]⟩) rfl) rfl rfl rfl (by rw [ho.out]; exact ⟨_, rfl, Kd.R_set (Kd.R_set hR.out k8.out (by decide) 0 _) (blk_put k8.out 0 (.int .i64 5) rfl) (by decide) 1 _, below_set (below_set hB.out g8.out) g8.out⟩)

end Go.Proofs.YthknfclhkmehgaaDoor.Fn
namespace Go.Proofs.YthknfclhkmehgaaDoor.Fn
open Go.RowKit Go.Maps Go.Proofs.YthknfclhkmehgaaDoorW.PrintWords Go.Proofs.YthknfclhkmehgaaDoorW.PrintLast Go.Proofs.YthknfclhkmehgaaDoorW.PrintMore
set_option linter.unusedVariables false
set_option linter.unusedSimpArgs false

theorem digR_end {Post : Ending → World → Prop} {W : World} {a : Act} {b : Nat} {s : Int} {dd : ByteArray} {v : Value} (h : W.heap[b]? = some (.cells #[.int .i64 s, .string dd] 45 (0, 0))) (h6 : a.tmps[6]? = some (.pointer (some ⟨b, 0, none⟩))) (h7 : a.tmps[7]? = some v) (hd : a.defers = []) (hP : Post (.returned (.tuple #[.agg #[.int .i64 s, .string dd], v])) W) :
    bodyPost Tryd.prog Tryd.f76 Post Exit.ret a W := by
  have hu45 := Tryd.underlying45
  have hc0 : W.cell? ⟨b, 0, none⟩ = some (.int .i64 s) := (blk_cell h 0).trans rfl
  have hc1 : W.cell? ⟨b, 1, none⟩ = some (.string dd) := (blk_cell h 1).trans rfl
  refine bodyPost_ret (v := .tuple #[.agg #[.int .i64 s, .string dd], v]) ?_ hd hP
  obtain ⟨tmps, defers⟩ := a
  dsimp only at h6 h7
  simp [results, Tryd.f76, go_sem, hc0, hc1, h6, h7, hu45]
def silR (d : ByteArray) : Al := if d.size = 0 then [actK 2] else []
noncomputable def digRF (k : Nat) (l : Rl) (d : ByteArray) (ed : Int) : Option O3 :=
  if d.size < 1000000 then (crossbarref08_Analyze.f k l (d ++ strOfNums [ed]) false).bind fun r => if r.1 = 1 then some (1, d ++ strOfNums [ed], silR d ++ [⟨9, 0, ⟨#[]⟩, 10⟩]) else if inB l r.1 r.2.1 = true then some (decP l (d ++ strOfNums [ed]) r.1 r.2.1 (silR d ++ [actK 10])) else none
  else none
set_option maxHeartbeats 8000000 in
set_option maxRecDepth 100000 in
theorem digR_in (k : Nat) (A0 : Option Addr) (c0 : Nat) (l0 : Rl) (st : Int) (d : ByteArray) (ed : Int) (w : World) (hr0 : Kd.C k35 w A0 l0.length l0) (hc0 : l0.length ≤ c0) (o : O3) (ho : digRF k l0 d ed = some o) :
    Calls Tryd.prog 76 #[.agg #[.int .i64 st, .string d], .slice A0 l0.length c0, .int .u8 ed] w fun e w' => ∃ v2_, e = .returned (.tuple #[.agg #[.int .i64 o.1, .string o.2.1], v2_]) ∧ Kd.R k62 62 w' w.heap.size (fun _ => True) v2_ o.2.2 ∧ Below w.heap.size w w' := by
  have hu5 := Tryd.underlying5
  have hu9 := Tryd.underlying9
  have hu26 := Tryd.underlying26
  have hu45 := Tryd.underlying45
  have hu62 := Tryd.underlying62
  have HC0 := Aside0.mk hc0
  unfold digRF at ho
  by_cases hg : d.size < 1000000
  rotate_left
  · rw [if_neg hg] at ho
    cases ho
  rw [if_pos hg] at ho
  obtain ⟨⟨x, y, z⟩, hA, ho⟩ := Option.bind_eq_some_iff.1 ho
  simp only at ho
  replace hA := Aside0.mk hA
  have hsum : (9223372036854775807 < d.size + (strOfNums [ed]).size) = False := eq_false (by rw [show (strOfNums [ed]).size = 1 from rfl]; omega)
  clear hg
  go_enter Tryd.func76, Tryd.ntmps76
  go_upto_region 1 with (fail)
  obtain ⟨W0, hW0⟩ : ∃ W0, (w.alloc (.cells #[.int .i64 st, .string d] 45)).alloc (.cells #[.int .i64 0, .string ⟨#[]⟩] 45) = W0 := ⟨_, rfl⟩
  rw [hW0]
  obtain ⟨b6, hb6⟩ : ∃ b6, b6 = w.heap.size + 1 := ⟨_, rfl⟩
  rw [← hb6]
  have hBw := Aside0.mk (show Below w.heap.size w W0 by rw [← hW0]; exact below_alloc (below_alloc (Below.refl _ _) _) _)
  have k30 : W0.heap[w.heap.size]? = some (.cells #[.int .i64 st, .string d] 45 (0, 0)) := by rw [← hW0]; exact blk_alloc (blk_new w _) _
  have k60 : W0.heap[b6]? = some (.cells #[.int .i64 0, .string ⟨#[]⟩] 45 (0, 0)) := by
    have h1 := blk_new (w.alloc (.cells #[.int .i64 st, .string d] 45)) (.cells #[.int .i64 0, .string ⟨#[]⟩] 45)
    rw [World.size_alloc, ← hb6] at h1
    rw [← hW0]
    exact h1
  have g6 := Aside0.mk (show w.heap.size ≤ b6 by omega)
  obtain ⟨b3, hb3⟩ : ∃ b3, w.heap.size = b3 := ⟨_, rfl⟩
  rw [hb3] at k30 ⊢
  have e31 : W0.cell? ⟨b3, 1, none⟩ = some (.string d) := (blk_cell k30 1).trans rfl
  have HR0 := Aside0.mk (Kd.C_below hr0 hBw.out)
  have hB := Aside0.mk (Below.refl W0.heap.size W0)
  have hR := Aside0.mk (show Kd.R k62 62 W0 W0.heap.size (fun _ => True) (.slice none 0 0) [] from Kd.R_nil _ _ _ _ _)
  have hwW := Aside0.mk (below_size hBw.out)
  replace k30 := Aside0.mk k30
  replace k60 := Aside0.mk k60
  clear hW0 hb6 hb3 hr0 hc0
  unfold silR at ho
  by_cases hd : d.size = 0
  · rw [if_pos hd] at ho
    have hse : d.toList.isEmpty = true := by rw [empty_iff hd]; kernel_rfl
    replace ho := Aside0.mk ho
    clear hd
    go_upto_region 6 with (first | (go_at_call 54; refine (actR_in 2 _).mono ?_; rintro e Wa ⟨rfl, hB1⟩; replace hR := Aside0.mk (Kd.R_below hR.out hB1); replace hB := Aside0.mk (below_then hB.out hB.out.size hB1); clear hB1) | ((with_reducible refine gate_builtin (b := .append) (xs := #[.tmp 15, .tmp 17]) rfl ?_); at_builtin; refine Kd.R_append k62 (w0 := W0) W0.heap.size rfl (.tmp 15) (.tmp 17) 48 62 (.agg #[(.int .i64 0), (.int .i64 0), (.string ⟨#[]⟩), (.int .i64 0)]) 40 rfl Tryd.underlying48 info62 rfl (by decide) (by omega) (.slice none 0 0) [] ⟨2, 0, ⟨#[]⟩, 0⟩ [.int .i64 2, .int .i64 0, .string ⟨#[]⟩, .int .i64 0] (fun _ => True) (fun _ => False) rfl rfl ?aP (fun _ hk => hk.elim) ?aF ?aO ?aB ?aS ?aL ?_; (case aP => exact k62_mkM _ _ _ ⟨2, 0, ⟨#[]⟩, 0⟩); (case aB => exact hB.out); (case aF => exact fun _ _ => trivial); (case aO => exact hR.out); (case aS => exact below_size hB.out); (case aL => decide); intro v1 Wb ho_ hb hg hat; obtain ⟨A1_, L1_, c1_, hv_⟩ := R_shape ho_; subst hv_; replace hR := Aside0.mk ho_; replace hB := Aside0.mk hb; clear hg hat; clear e31; have e31 : Wb.cell? ⟨b3, 1, none⟩ = some (.string d) := (blk_cell (blk_below k30.out hB.out) 1).trans rfl) | ((with_reducible refine gate_dst (N := 22) rfl ?_); refine Kd.R_lit (Kd.int .u8) _ 5 ?hg (N := 22) ?hd (xs := ([ed] : List Int)) (inner := [.int .u8 ed]) (ok := fun _ => True) (okp := fun _ => True) ?hr ?hp (fun _ hk => hk) trivial (Below.refl _ _) (Nat.le_refl _) (by simp) ?_; (case hd => rfl); (case hg => rfl); (case hr => first | (go_simp; done) | (go_simp; rfl)); (case hp => exact (Reps.one (show Kd.M (Kd.int .u8) _ _ _ ed [.int .u8 ed] from rfl) (Reps.none _ _))); intro v22 WL hoL hB1 hg_ hnew_; clear hg_ hnew_; obtain ⟨AL, cL, rfl, _, hCL⟩ := Kd.R_reads hoL; have hcv : (convert 78 9 (.slice AL 1 cL)).run Tryd.prog WL = .ok (.string (strOfNums [ed])) WL := Kd.C_string (c := cL) Tryd.underlying78 Tryd.underlying5 Tryd.underlying9 hCL; replace hR := Aside0.mk (Kd.R_below hR.out hB1); replace hB := Aside0.mk (below_then hB.out hB.out.size hB1); clear e31; have e31 : WL.cell? ⟨b3, 1, none⟩ = some (.string d) := (blk_cell (blk_below k30.out hB.out) 1).trans rfl; clear hB1 hoL hCL) | (go_at_call 77; refine (crossbarref08_Analyze.calls k A0 c0 l0 (d ++ strOfNums [ed]) false x y z _ (Kd.C_below HR0.out hB.out) HC0.out hA.out).mono ?_; rintro e W1 ⟨rfl, hB1⟩; replace hR := Aside0.mk (Kd.R_below hR.out hB1); replace hB := Aside0.mk (below_then hB.out hB.out.size hB1); clear hB1 hcv e31))
    obtain ⟨W2, hW2⟩ : ∃ W2, W1.alloc (.cells #[.int .i64 x, .int .i64 y] 26) = W2 := ⟨_, rfl⟩
    rw [hW2]
    have k10 := Aside0.mk (show W2.heap[W1.heap.size]? = some (.cells #[.int .i64 x, .int .i64 y] 26 (0, 0)) by rw [← hW2]; exact blk_new _ _)
    have hB1 : Below W1.heap.size W1 W2 := by rw [← hW2]; exact below_alloc (Below.refl _ _) _
    replace hR := Aside0.mk (Kd.R_below hR.out hB1)
    replace hB := Aside0.mk (below_then hB.out hB.out.size hB1)
    obtain ⟨b10, hb10⟩ : ∃ b10, W1.heap.size = b10 := ⟨_, rfl⟩
    rw [hb10] at k10 ⊢
    have e100 : W2.cell? ⟨b10, 0, none⟩ = some (.int .i64 x) := (blk_cell k10.out 0).trans rfl
    have e101 : W2.cell? ⟨b10, 1, none⟩ = some (.int .i64 y) := (blk_cell k10.out 1).trans rfl
    clear hW2 hb10 hB1
    replace ho := ho.out
    by_cases hx : x = 1
    · subst hx
      rw [if_pos rfl] at ho
      replace ho := Aside0.mk (Option.some.inj ho).symm
      go_wp2_with (first | (go_at_call 55; refine (timerR_in _).mono ?_; rintro e W3 ⟨rfl, hB1⟩; replace hR := Aside0.mk (Kd.R_below hR.out hB1); replace hB := Aside0.mk (below_then hB.out hB.out.size hB1); clear hB1) | ((with_reducible refine gate_builtin (b := .append) (xs := #[.tmp 36, .tmp 38]) rfl ?_); at_builtin; refine Kd.R_append k62 (w0 := W0) W0.heap.size rfl (.tmp 36) (.tmp 38) 48 62 (.agg #[(.int .i64 0), (.int .i64 0), (.string ⟨#[]⟩), (.int .i64 0)]) 40 rfl Tryd.underlying48 info62 rfl (by decide) (by omega) (.slice A1_ L1_ c1_) [actK 2] ⟨9, 0, ⟨#[]⟩, 10⟩ [.int .i64 9, .int .i64 0, .string ⟨#[]⟩, .int .i64 10] (fun _ => True) (fun _ => False) rfl rfl ?aP (fun _ hk => hk.elim) ?aF ?aO ?aB ?aS ?aL ?_; (case aP => exact k62_mkM _ _ _ ⟨9, 0, ⟨#[]⟩, 10⟩); (case aB => exact hB.out); (case aF => exact fun _ _ => trivial); (case aO => exact hR.out); (case aS => exact below_size hB.out); (case aL => decide); intro v4 W4 ho_ hb hg hat; obtain ⟨Ao_, Lo_, co_, hv_⟩ := R_shape ho_; subst hv_; replace hR := Aside0.mk ho_; replace hB := Aside0.mk hb; clear hg hat; have k6 := Aside0.mk (blk_below k60.out hB.out); have e60 : W4.cell? ⟨b6, 0, none⟩ = some (.int .i64 0) := (blk_cell k6.out 0).trans rfl; have e61 : W4.cell? ⟨b6, 1, none⟩ = some (.string ⟨#[]⟩) := (blk_cell k6.out 1).trans rfl; have f60 : W4.frozen? ⟨b6, 0, none⟩ = false := blk_frozen k6.out 0; have f61 : W4.frozen? ⟨b6, 1, none⟩ = false := blk_frozen k6.out 1))
      exact digR_end (blk_put (blk_put k6.out 0 (.int .i64 1) rfl) 1 (.string (d ++ strOfNums [ed])) rfl) rfl rfl rfl (by rw [ho.out]; exact ⟨_, rfl, Kd.R_lower (Kd.R_set (Kd.R_set hR.out k6.out (by decide) 0 _) (blk_put k6.out 0 (.int .i64 1) rfl) (by decide) 1 _) hwW.out, below_set (below_set (below_then hBw.out hBw.out.size hB.out) g6.out) g6.out⟩)
    · rw [if_neg hx] at ho
      have hxb : (x == 1) = false := beq_eq_false_iff_ne.2 hx
      have hxd : decide (x = 1) = false := decide_eq_false hx
      clear hx
      cases hi : inB l0 x y with
      | false => rw [hi, if_neg (by decide)] at ho; cases ho
      | true =>
        rw [hi, if_pos rfl] at ho
        replace ho := Aside0.mk (Option.some.inj ho).symm
        replace hi := Aside0.mk hi
        go_wp2_with (first | (go_at_call 54; refine (actR_in 10 _).mono ?_; rintro e W3 ⟨rfl, hB1⟩; replace k10 := Aside0.mk (blk_below k10.out hB1); replace hR := Aside0.mk (Kd.R_below hR.out hB1); replace hB := Aside0.mk (below_then hB.out hB.out.size hB1); clear hB1) | ((with_reducible refine gate_builtin (b := .append) (xs := #[.tmp 40, .tmp 42]) rfl ?_); at_builtin; refine Kd.R_append k62 (w0 := W0) W0.heap.size rfl (.tmp 40) (.tmp 42) 48 62 (.agg #[(.int .i64 0), (.int .i64 0), (.string ⟨#[]⟩), (.int .i64 0)]) 40 rfl Tryd.underlying48 info62 rfl (by decide) (by omega) (.slice A1_ L1_ c1_) [actK 2] ⟨10, 0, ⟨#[]⟩, 0⟩ [.int .i64 10, .int .i64 0, .string ⟨#[]⟩, .int .i64 0] (fun _ => True) (fun _ => False) rfl rfl ?aP (fun _ hk => hk.elim) ?aF ?aO ?aB ?aS ?aL ?_; (case aP => exact k62_mkM _ _ _ ⟨10, 0, ⟨#[]⟩, 0⟩); (case aB => exact hB.out); (case aF => exact fun _ _ => trivial); (case aO => exact hR.out); (case aS => exact below_size hB.out); (case aL => decide); intro v4 W4 ho_ hb hg hat; obtain ⟨A5_, L5_, c5_, hv_⟩ := R_shape ho_; subst hv_; replace k10 := Aside0.mk (blk_grown k10.out hg (Kd.R_ne hR.out k10.out (by decide))); replace hR := Aside0.mk ho_; replace hB := Aside0.mk hb; clear hg hat; clear e100 e101; have e100 : W4.cell? ⟨b10, 0, none⟩ = some (.int .i64 x) := (blk_cell k10.out 0).trans rfl; have e101 : W4.cell? ⟨b10, 1, none⟩ = some (.int .i64 y) := (blk_cell k10.out 1).trans rfl) | (go_at_call 78; refine (decR_in W0 _ hB.out _ _ _ _ hR.out (by decide) A0 c0 l0 HR0.out HC0.out (d ++ strOfNums [ed]) x y (inB_out hi.out) o ho.out).mono ?_; rintro e W5 ⟨v5, rfl, hR5, hB5⟩; obtain ⟨A6_, L6_, c6_, hv_⟩ := R_shape hR5; subst hv_; replace hR := Aside0.mk hR5; replace hB := Aside0.mk hB5; clear hR5 hB5; have k6 := Aside0.mk (blk_below k60.out hB.out); have e60 : W5.cell? ⟨b6, 0, none⟩ = some (.int .i64 0) := (blk_cell k6.out 0).trans rfl; have e61 : W5.cell? ⟨b6, 1, none⟩ = some (.string ⟨#[]⟩) := (blk_cell k6.out 1).trans rfl; have f60 : W5.frozen? ⟨b6, 0, none⟩ = false := blk_frozen k6.out 0; have f61 : W5.frozen? ⟨b6, 1, none⟩ = false := blk_frozen k6.out 1))
        exact digR_end (blk_put (blk_put k6.out 0 (.int .i64 o.1) rfl) 1 (.string o.2.1) rfl) rfl rfl rfl ⟨_, rfl, Kd.R_lower (Kd.R_set (Kd.R_set hR.out k6.out (by decide) 0 _) (blk_put k6.out 0 (.int .i64 o.1) rfl) (by decide) 1 _) hwW.out, below_set (below_set (below_then hBw.out hBw.out.size hB.out) g6.out) g6.out⟩
  · rw [if_neg hd] at ho
    have hse := empty_flag hd
    replace ho := Aside0.mk ho
    clear hd
    go_upto_region 6 with (first | ((with_reducible refine gate_dst (N := 22) rfl ?_); refine Kd.R_lit (Kd.int .u8) _ 5 ?hg (N := 22) ?hd (xs := ([ed] : List Int)) (inner := [.int .u8 ed]) (ok := fun _ => True) (okp := fun _ => True) ?hr ?hp (fun _ hk => hk) trivial (Below.refl _ _) (Nat.le_refl _) (by simp) ?_; (case hd => rfl); (case hg => rfl); (case hr => first | (go_simp; done) | (go_simp; rfl)); (case hp => exact (Reps.one (show Kd.M (Kd.int .u8) _ _ _ ed [.int .u8 ed] from rfl) (Reps.none _ _))); intro v22 WL hoL hB1 hg_ hnew_; clear hg_ hnew_; obtain ⟨AL, cL, rfl, _, hCL⟩ := Kd.R_reads hoL; have hcv : (convert 78 9 (.slice AL 1 cL)).run Tryd.prog WL = .ok (.string (strOfNums [ed])) WL := Kd.C_string (c := cL) Tryd.underlying78 Tryd.underlying5 Tryd.underlying9 hCL; replace hR := Aside0.mk (Kd.R_below hR.out hB1); replace hB := Aside0.mk (below_then hB.out hB.out.size hB1); clear e31; have e31 : WL.cell? ⟨b3, 1, none⟩ = some (.string d) := (blk_cell (blk_below k30.out hB.out) 1).trans rfl; clear hB1 hoL hCL) | (go_at_call 77; refine (crossbarref08_Analyze.calls k A0 c0 l0 (d ++ strOfNums [ed]) false x y z _ (Kd.C_below HR0.out hB.out) HC0.out hA.out).mono ?_; rintro e W1 ⟨rfl, hB1⟩; replace hR := Aside0.mk (Kd.R_below hR.out hB1); replace hB := Aside0.mk (below_then hB.out hB.out.size hB1); clear hB1 hcv e31))
    obtain ⟨W2, hW2⟩ : ∃ W2, W1.alloc (.cells #[.int .i64 x, .int .i64 y] 26) = W2 := ⟨_, rfl⟩
    rw [hW2]
    have k10 := Aside0.mk (show W2.heap[W1.heap.size]? = some (.cells #[.int .i64 x, .int .i64 y] 26 (0, 0)) by rw [← hW2]; exact blk_new _ _)
    have hB1 : Below W1.heap.size W1 W2 := by rw [← hW2]; exact below_alloc (Below.refl _ _) _
    replace hR := Aside0.mk (Kd.R_below hR.out hB1)
    replace hB := Aside0.mk (below_then hB.out hB.out.size hB1)
    obtain ⟨b10, hb10⟩ : ∃ b10, W1.heap.size = b10 := ⟨_, rfl⟩
    rw [hb10] at k10 ⊢
    have e100 : W2.cell? ⟨b10, 0, none⟩ = some (.int .i64 x) := (blk_cell k10.out 0).trans rfl
    have e101 : W2.cell? ⟨b10, 1, none⟩ = some (.int .i64 y) := (blk_cell k10.out 1).trans rfl
    clear hW2 hb10 hB1
    replace ho := ho.out
    by_cases hx : x = 1
    · subst hx
      rw [if_pos rfl] at ho
      replace ho := Aside0.mk (Option.some.inj ho).symm
      go_wp2_with (first | (go_at_call 55; refine (timerR_in _).mono ?_; rintro e W3 ⟨rfl, hB1⟩; replace hR := Aside0.mk (Kd.R_below hR.out hB1); replace hB := Aside0.mk (below_then hB.out hB.out.size hB1); clear hB1) | ((with_reducible refine gate_builtin (b := .append) (xs := #[.tmp 36, .tmp 38]) rfl ?_); at_builtin; refine Kd.R_append k62 (w0 := W0) W0.heap.size rfl (.tmp 36) (.tmp 38) 48 62 (.agg #[(.int .i64 0), (.int .i64 0), (.string ⟨#[]⟩), (.int .i64 0)]) 40 rfl Tryd.underlying48 info62 rfl (by decide) (by omega) (.slice none 0 0) [] ⟨9, 0, ⟨#[]⟩, 10⟩ [.int .i64 9, .int .i64 0, .string ⟨#[]⟩, .int .i64 10] (fun _ => True) (fun _ => False) rfl rfl ?aP (fun _ hk => hk.elim) ?aF ?aO ?aB ?aS ?aL ?_; (case aP => exact k62_mkM _ _ _ ⟨9, 0, ⟨#[]⟩, 10⟩); (case aB => exact hB.out); (case aF => exact fun _ _ => trivial); (case aO => exact hR.out); (case aS => exact below_size hB.out); (case aL => decide); intro v4 W4 ho_ hb hg hat; obtain ⟨Ao_, Lo_, co_, hv_⟩ := R_shape ho_; subst hv_; replace hR := Aside0.mk ho_; replace hB := Aside0.mk hb; clear hg hat; have k6 := Aside0.mk (blk_below k60.out hB.out); have e60 : W4.cell? ⟨b6, 0, none⟩ = some (.int .i64 0) := (blk_cell k6.out 0).trans rfl; have e61 : W4.cell? ⟨b6, 1, none⟩ = some (.string ⟨#[]⟩) := (blk_cell k6.out 1).trans rfl; have f60 : W4.frozen? ⟨b6, 0, none⟩ = false := blk_frozen k6.out 0; have f61 : W4.frozen? ⟨b6, 1, none⟩ = false := blk_frozen k6.out 1))
      exact digR_end (blk_put (blk_put k6.out 0 (.int .i64 1) rfl) 1 (.string (d ++ strOfNums [ed])) rfl) rfl rfl rfl (by rw [ho.out]; exact ⟨_, rfl, Kd.R_lower (Kd.R_set (Kd.R_set hR.out k6.out (by decide) 0 _) (blk_put k6.out 0 (.int .i64 1) rfl) (by decide) 1 _) hwW.out, below_set (below_set (below_then hBw.out hBw.out.size hB.out) g6.out) g6.out⟩)
    · rw [if_neg hx] at ho
      have hxb : (x == 1) = false := beq_eq_false_iff_ne.2 hx
      have hxd : decide (x = 1) = false := decide_eq_false hx
      clear hx
      cases hi : inB l0 x y with
      | false => rw [hi, if_neg (by decide)] at ho; cases ho
      | true =>
        rw [hi, if_pos rfl] at ho
        replace ho := Aside0.mk (Option.some.inj ho).symm
        replace hi := Aside0.mk hi
        go_wp2_with (first | (go_at_call 54; refine (actR_in 10 _).mono ?_; rintro e W3 ⟨rfl, hB1⟩; replace k10 := Aside0.mk (blk_below k10.out hB1); replace hR := Aside0.mk (Kd.R_below hR.out hB1); replace hB := Aside0.mk (below_then hB.out hB.out.size hB1); clear hB1) | ((with_reducible refine gate_builtin (b := .append) (xs := #[.tmp 40, .tmp 42]) rfl ?_); at_builtin; refine Kd.R_append k62 (w0 := W0) W0.heap.size rfl (.tmp 40) (.tmp 42) 48 62 (.agg #[(.int .i64 0), (.int .i64 0), (.string ⟨#[]⟩), (.int .i64 0)]) 40 rfl Tryd.underlying48 info62 rfl (by decide) (by omega) (.slice none 0 0) [] ⟨10, 0, ⟨#[]⟩, 0⟩ [.int .i64 10, .int .i64 0, .string ⟨#[]⟩, .int .i64 0] (fun _ => True) (fun _ => False) rfl rfl ?aP (fun _ hk => hk.elim) ?aF ?aO ?aB ?aS ?aL ?_; (case aP => exact k62_mkM _ _ _ ⟨10, 0, ⟨#[]⟩, 0⟩); (case aB => exact hB.out); (case aF => exact fun _ _ => trivial); (case aO => exact hR.out); (case aS => exact below_size hB.out); (case aL => decide); intro v4 W4 ho_ hb hg hat; obtain ⟨A5_, L5_, c5_, hv_⟩ := R_shape ho_; subst hv_; replace k10 := Aside0.mk (blk_grown k10.out hg (Kd.R_ne hR.out k10.out (by decide))); replace hR := Aside0.mk ho_; replace hB := Aside0.mk hb; clear hg hat; clear e100 e101; have e100 : W4.cell? ⟨b10, 0, none⟩ = some (.int .i64 x) := (blk_cell k10.out 0).trans rfl; have e101 : W4.cell? ⟨b10, 1, none⟩ = some (.int .i64 y) := (blk_cell k10.out 1).trans rfl) | (go_at_call 78; refine (decR_in W0 _ hB.out _ _ _ _ hR.out (by decide) A0 c0 l0 HR0.out HC0.out (d ++ strOfNums [ed]) x y (inB_out hi.out) o ho.out).mono ?_; rintro e W5 ⟨v5, rfl, hR5, hB5⟩; obtain ⟨A6_, L6_, c6_, hv_⟩ := R_shape hR5; subst hv_; replace hR := Aside0.mk hR5; replace hB := Aside0.mk hB5; clear hR5 hB5; have k6 := Aside0.mk (blk_below k60.out hB.out); have e60 : W5.cell? ⟨b6, 0, none⟩ = some (.int .i64 0) := (blk_cell k6.out 0).trans rfl; have e61 : W5.cell? ⟨b6, 1, none⟩ = some (.string ⟨#[]⟩) := (blk_cell k6.out 1).trans rfl; have f60 : W5.frozen? ⟨b6, 0, none⟩ = false := blk_frozen k6.out 0; have f61 : W5.frozen? ⟨b6, 1, none⟩ = false := blk_frozen k6.out 1))
        exact digR_end (blk_put (blk_put k6.out 0 (.int .i64 o.1) rfl) 1 (.string o.2.1) rfl) rfl rfl rfl ⟨_, rfl, Kd.R_lower (Kd.R_set (Kd.R_set hR.out k6.out (by decide) 0 _) (blk_put k6.out 0 (.int .i64 o.1) rfl) (by decide) 1 _) hwW.out, below_set (below_set (below_then hBw.out hBw.out.size hB.out) g6.out) g6.out⟩

end Go.Proofs.YthknfclhkmehgaaDoor.Fn
namespace Go.Proofs.YthknfclhkmehgaaDoor.Fn
open Go.RowKit Go.Maps Go.Proofs.YthknfclhkmehgaaDoorW.PrintWords Go.Proofs.YthknfclhkmehgaaDoorW.PrintLast Go.Proofs.YthknfclhkmehgaaDoorW.PrintMore
set_option linter.unusedVariables false
set_option linter.unusedSimpArgs false

theorem colR_end {Post : Ending → World → Prop} {W : World} {a : Act} {b6 : Nat} {s : Int} {dd : ByteArray} {v : Value} {e4 : Int} (h : W.heap[b6]? = some (.cells #[.int .i64 s, .string dd] 45 (0, 0))) (h6 : a.tmps[6]? = some (.pointer (some ⟨b6, 0, none⟩))) (h7 : a.tmps[7]? = some v) (h8 : a.tmps[8]? = some (.int .i64 e4)) (hd : a.defers = []) (hP : Post (.returned (.tuple #[.agg #[.int .i64 s, .string dd], v, .int .i64 e4])) W) :
    bodyPost Tryd.prog Tryd.f53 Post Exit.ret a W := by
  have hu45 := Tryd.underlying45
  have hc0 : W.cell? ⟨b6, 0, none⟩ = some (.int .i64 s) := (blk_cell h 0).trans rfl
  have hc1 : W.cell? ⟨b6, 1, none⟩ = some (.string dd) := (blk_cell h 1).trans rfl
  refine bodyPost_ret (v := .tuple #[.agg #[.int .i64 s, .string dd], v, .int .i64 e4]) ?_ hd hP
  obtain ⟨tmps, defers⟩ := a
  dsimp only at h6 h7 h8
  simp [results, Tryd.f53, go_sem, hc0, hc1, h6, h7, h8, hu45]
noncomputable def colRF (k : Nat) (l : Rl) (d : ByteArray) (ek ed : Int) : Option (Int × ByteArray × Al × Int) :=
  if ek = 3 then (digRF k l d ed).bind fun o => some (o.1, o.2.1, o.2.2, 0)
  else if ek = 4 then (if d.size = 0 then some (5, ⟨#[]⟩, [⟨3, 102, ⟨#[]⟩, 0⟩], 0) else (crossbarref08_Analyze.f k l d true).bind fun r => if inB l r.1 r.2.1 = true then some ((decP l d r.1 r.2.1 []).1, (decP l d r.1 r.2.1 []).2.1, (decP l d r.1 r.2.1 []).2.2, 0) else none)
  else if ek = 2 then some (0, ⟨#[]⟩, [⟨10, 0, ⟨#[]⟩, 0⟩, ⟨2, 0, ⟨#[]⟩, 0⟩], 0)
  else some (0, ⟨#[]⟩, [], 160)
set_option maxHeartbeats 8000000 in
set_option maxRecDepth 100000 in
theorem colR_in (k : Nat) (st : Int) (d : ByteArray) (A1 : Option Addr) (c1 : Nat) (l1 : Rl) (ek ec ed : Int) (r1 : Int) (r2 : ByteArray) (r3 : Al) (r4 : Int) (w : World) (hr1 : Kd.C k35 w A1 l1.length l1) (hc1 : l1.length ≤ c1) (h : colRF k l1 d ek ed = some (r1, r2, r3, r4)) :
    Calls Tryd.prog 53 #[.agg #[.int .i64 st, .string d], .slice A1 l1.length c1, .agg #[.int .i64 ek, .int .i64 ec, .int .u8 ed]] w fun e w' => ∃ v2_, e = .returned (.tuple #[.agg #[.int .i64 r1, .string r2], v2_, .int .i64 r4]) ∧ Kd.R k62 62 w' w.heap.size (fun _ => True) v2_ r3 ∧ Below w.heap.size w w' := by
  have hu26 := Tryd.underlying26
  have hu45 := Tryd.underlying45
  have hu47 := Tryd.underlying47
  have hu62 := Tryd.underlying62
  have HR1 := Aside0.mk hr1
  have HC1 := Aside0.mk hc1
  clear hr1 hc1
  unfold colRF at h
  go_enter Tryd.func53, Tryd.ntmps53
  go_upto_region 1 with (fail)
  obtain ⟨W0, hW0⟩ : ∃ W0, ((w.alloc (.cells #[.int .i64 st, .string d] 45)).alloc (.cells #[.int .i64 ek, .int .i64 ec, .int .u8 ed] 47)).alloc (.cells #[.int .i64 0, .string ⟨#[]⟩] 45) = W0 := ⟨_, rfl⟩
  rw [hW0]
  obtain ⟨b6, hb6⟩ : ∃ b6, b6 = w.heap.size + 1 + 1 := ⟨_, rfl⟩
  rw [← hb6]
  obtain ⟨b5, hb5⟩ : ∃ b5, b5 = w.heap.size + 1 := ⟨_, rfl⟩
  rw [← hb5]
  have hB := Aside0.mk (show Below w.heap.size w W0 by rw [← hW0]; exact below_alloc (below_alloc (below_alloc (Below.refl _ _) _) _) _)
  have k3 : W0.heap[w.heap.size]? = some (.cells #[.int .i64 st, .string d] 45 (0, 0)) := by rw [← hW0]; exact blk_alloc (blk_alloc (blk_new w _) _) _
  have k5 : W0.heap[b5]? = some (.cells #[.int .i64 ek, .int .i64 ec, .int .u8 ed] 47 (0, 0)) := by
    have h1 := blk_new (w.alloc (.cells #[.int .i64 st, .string d] 45)) (.cells #[.int .i64 ek, .int .i64 ec, .int .u8 ed] 47)
    rw [World.size_alloc, ← hb5] at h1
    rw [← hW0]
    exact blk_alloc h1 _
  have k6 : W0.heap[b6]? = some (.cells #[.int .i64 0, .string ⟨#[]⟩] 45 (0, 0)) := by
    have h1 := blk_new ((w.alloc (.cells #[.int .i64 st, .string d] 45)).alloc (.cells #[.int .i64 ek, .int .i64 ec, .int .u8 ed] 47)) (.cells #[.int .i64 0, .string ⟨#[]⟩] 45)
    rw [World.size_alloc, World.size_alloc, ← hb6] at h1
    rw [← hW0]
    exact h1
  have g6 := Aside0.mk (show w.heap.size ≤ b6 by omega)
  obtain ⟨b3, hb3⟩ : ∃ b3, w.heap.size = b3 := ⟨_, rfl⟩
  rw [hb3] at k3 ⊢
  replace k3 := Aside0.mk k3
  replace k5 := Aside0.mk k5
  replace k6 := Aside0.mk k6
  clear hW0 hb6 hb5
  replace hb3 := Aside0.mk hb3
  have e30 : W0.cell? ⟨b3, 0, none⟩ = some (.int .i64 st) := (blk_cell k3.out 0).trans rfl
  have e31 : W0.cell? ⟨b3, 1, none⟩ = some (.string d) := (blk_cell k3.out 1).trans rfl
  have e50 : W0.cell? ⟨b5, 0, none⟩ = some (.int .i64 ek) := (blk_cell k5.out 0).trans rfl
  have e51 : W0.cell? ⟨b5, 1, none⟩ = some (.int .i64 ec) := (blk_cell k5.out 1).trans rfl
  have e52 : W0.cell? ⟨b5, 2, none⟩ = some (.int .u8 ed) := (blk_cell k5.out 2).trans rfl
  have e60 : W0.cell? ⟨b6, 0, none⟩ = some (.int .i64 0) := (blk_cell k6.out 0).trans rfl
  have e61 : W0.cell? ⟨b6, 1, none⟩ = some (.string ⟨#[]⟩) := (blk_cell k6.out 1).trans rfl
  have f60 : W0.frozen? ⟨b6, 0, none⟩ = false := blk_frozen k6.out 0
  have f61 : W0.frozen? ⟨b6, 1, none⟩ = false := blk_frozen k6.out 1
  by_cases h3 : ek = 3
  · subst h3
    rw [if_pos rfl] at h
    obtain ⟨o, ho, h⟩ := Option.bind_eq_some_iff.1 h
    simp only [Option.some.injEq, Prod.mk.injEq] at h
    obtain ⟨rfl, rfl, rfl, rfl⟩ := h
    replace ho := Aside0.mk ho
    go_upto_region 3 with (first | (go_at_call 76; refine (digR_in k A1 c1 l1 st d ed _ (Kd.C_below HR1.out hB.out) HC1.out o ho.out).mono ?_; rintro e W2 ⟨v2, rfl, hR2, hB1⟩; obtain ⟨AL, LL, cL, hvL⟩ := R_shape hR2; subst hvL; have hR := Aside0.mk (Kd.R_lower hR2 (below_size hB.out)); clear hR2; replace k3 := Aside0.mk (blk_below k3.out hB1); replace k5 := Aside0.mk (blk_below k5.out hB1); replace k6 := Aside0.mk (blk_below k6.out hB1); replace hB := Aside0.mk (below_then hB.out hB.out.size hB1); clear hB1; clear e30 e31 e50 e51 e52 e60 e61 f60 f61; have e30 : W2.cell? ⟨b3, 0, none⟩ = some (.int .i64 st) := (blk_cell k3.out 0).trans rfl; have e31 : W2.cell? ⟨b3, 1, none⟩ = some (.string d) := (blk_cell k3.out 1).trans rfl; have e50 : W2.cell? ⟨b5, 0, none⟩ = some (.int .i64 3) := (blk_cell k5.out 0).trans rfl; have e51 : W2.cell? ⟨b5, 1, none⟩ = some (.int .i64 ec) := (blk_cell k5.out 1).trans rfl; have e52 : W2.cell? ⟨b5, 2, none⟩ = some (.int .u8 ed) := (blk_cell k5.out 2).trans rfl; have e60 : W2.cell? ⟨b6, 0, none⟩ = some (.int .i64 0) := (blk_cell k6.out 0).trans rfl; have e61 : W2.cell? ⟨b6, 1, none⟩ = some (.string ⟨#[]⟩) := (blk_cell k6.out 1).trans rfl; have f60 : W2.frozen? ⟨b6, 0, none⟩ = false := blk_frozen k6.out 0; have f61 : W2.frozen? ⟨b6, 1, none⟩ = false := blk_frozen k6.out 1))
    obtain ⟨W3, hW3⟩ : ∃ W3, W2.alloc (.cells #[.int .i64 o.1, .string o.2.1] 45) = W3 := ⟨_, rfl⟩
    rw [hW3]
    have k9 : W3.heap[W2.heap.size]? = some (.cells #[.int .i64 o.1, .string o.2.1] 45 (0, 0)) := by rw [← hW3]; exact blk_new _ _
    have hB1 : Below W2.heap.size W2 W3 := by rw [← hW3]; exact below_alloc (Below.refl _ _) _
    replace hR := Aside0.mk (Kd.R_below hR.out hB1)
    obtain ⟨b9, hb9⟩ : ∃ b9, W2.heap.size = b9 := ⟨_, rfl⟩
    rw [hb9] at k9 ⊢
    have e90 : W3.cell? ⟨b9, 0, none⟩ = some (.int .i64 o.1) := (blk_cell k9 0).trans rfl
    have e91 : W3.cell? ⟨b9, 1, none⟩ = some (.string o.2.1) := (blk_cell k9 1).trans rfl
    replace k9 := Aside0.mk k9
    replace k3 := Aside0.mk (blk_below k3.out hB1)
    replace k5 := Aside0.mk (blk_below k5.out hB1)
    replace k6 := Aside0.mk (blk_below k6.out hB1)
    replace hB := Aside0.mk (below_then hB.out hB.out.size hB1)
    clear hB1
    clear e30 e31 e50 e51 e52 e60 e61 f60 f61
    have e30 : W3.cell? ⟨b3, 0, none⟩ = some (.int .i64 st) := (blk_cell k3.out 0).trans rfl
    have e31 : W3.cell? ⟨b3, 1, none⟩ = some (.string d) := (blk_cell k3.out 1).trans rfl
    have e50 : W3.cell? ⟨b5, 0, none⟩ = some (.int .i64 3) := (blk_cell k5.out 0).trans rfl
    have e51 : W3.cell? ⟨b5, 1, none⟩ = some (.int .i64 ec) := (blk_cell k5.out 1).trans rfl
    have e52 : W3.cell? ⟨b5, 2, none⟩ = some (.int .u8 ed) := (blk_cell k5.out 2).trans rfl
    have e60 : W3.cell? ⟨b6, 0, none⟩ = some (.int .i64 0) := (blk_cell k6.out 0).trans rfl
    have e61 : W3.cell? ⟨b6, 1, none⟩ = some (.string ⟨#[]⟩) := (blk_cell k6.out 1).trans rfl
    have f60 : W3.frozen? ⟨b6, 0, none⟩ = false := blk_frozen k6.out 0
    have f61 : W3.frozen? ⟨b6, 1, none⟩ = false := blk_frozen k6.out 1
    clear hW3 hb9
    go_wp2
    exact colR_end (blk_put (blk_put k6.out 0 (.int .i64 o.1) rfl) 1 (.string o.2.1) rfl) rfl rfl rfl rfl ⟨_, rfl, Kd.R_set (Kd.R_set hR.out k6.out (by decide) 0 _) (blk_put k6.out 0 (.int .i64 o.1) rfl) (by decide) 1 _, below_set (below_set hB.out g6.out) g6.out⟩
  by_cases h4 : ek = 4
  · subst h4
    rw [if_neg (by decide), if_pos rfl] at h
    by_cases hd : d.size = 0
    · rw [if_pos hd] at h
      simp only [Option.some.injEq, Prod.mk.injEq] at h
      obtain ⟨rfl, rfl, rfl, rfl⟩ := h
      have hse : d.toList.isEmpty = true := by rw [empty_iff hd]; kernel_rfl
      clear hd
      go_wp2_with (first | (go_at_call 56; refine (toneR_in 102 _).mono ?_; rintro e W1 ⟨rfl, hB1⟩; replace k3 := Aside0.mk (blk_below k3.out hB1); replace k5 := Aside0.mk (blk_below k5.out hB1); replace k6 := Aside0.mk (blk_below k6.out hB1); replace hB := Aside0.mk (below_then hB.out hB.out.size hB1); clear hB1; clear e30 e31 e50 e51 e52 e60 e61 f60 f61; have e30 : W1.cell? ⟨b3, 0, none⟩ = some (.int .i64 st) := (blk_cell k3.out 0).trans rfl; have e31 : W1.cell? ⟨b3, 1, none⟩ = some (.string d) := (blk_cell k3.out 1).trans rfl; have e50 : W1.cell? ⟨b5, 0, none⟩ = some (.int .i64 4) := (blk_cell k5.out 0).trans rfl; have e51 : W1.cell? ⟨b5, 1, none⟩ = some (.int .i64 ec) := (blk_cell k5.out 1).trans rfl; have e52 : W1.cell? ⟨b5, 2, none⟩ = some (.int .u8 ed) := (blk_cell k5.out 2).trans rfl; have e60 : W1.cell? ⟨b6, 0, none⟩ = some (.int .i64 0) := (blk_cell k6.out 0).trans rfl; have e61 : W1.cell? ⟨b6, 1, none⟩ = some (.string ⟨#[]⟩) := (blk_cell k6.out 1).trans rfl; have f60 : W1.frozen? ⟨b6, 0, none⟩ = false := blk_frozen k6.out 0; have f61 : W1.frozen? ⟨b6, 1, none⟩ = false := blk_frozen k6.out 1) | ((with_reducible refine gate_dst (N := 40) rfl ?_); refine Kd.R_lit k62 _ 62 ?hg (N := 40) ?hd (xs := ([⟨3, 102, ⟨#[]⟩, 0⟩] : Al)) (inner := [.int .i64 3, .int .i64 102, .string ⟨#[]⟩, .int .i64 0]) (ok := fun _ => True) (okp := fun _ => True) ?hr ?hp (fun _ hk => hk) trivial (Below.refl _ _) (Nat.le_refl _) (by simp) ?_; (case hd => rfl); (case hg => rfl); (case hr => first | (go_simp; done) | (go_simp; rfl)); (case hp => exact (Reps.c4 (show Kd.M k62 _ _ _ (⟨3, 102, ⟨#[]⟩, 0⟩ : S62) [.int .i64 3, .int .i64 102, .string ⟨#[]⟩, .int .i64 0] from k62_mkM _ _ _ _) (Reps.none _ _))); intro vL W2 hoL hB1 hg_ hnew_; clear hg_ hnew_; obtain ⟨AL, LL, cL, hvL⟩ := R_shape hoL; subst hvL; have hR := Aside0.mk (Kd.R_lower hoL (below_size hB.out)); clear hoL; replace k3 := Aside0.mk (blk_below k3.out hB1); replace k5 := Aside0.mk (blk_below k5.out hB1); replace k6 := Aside0.mk (blk_below k6.out hB1); replace hB := Aside0.mk (below_then hB.out hB.out.size hB1); clear hB1; clear e30 e31 e50 e51 e52 e60 e61 f60 f61; have e30 : W2.cell? ⟨b3, 0, none⟩ = some (.int .i64 st) := (blk_cell k3.out 0).trans rfl; have e31 : W2.cell? ⟨b3, 1, none⟩ = some (.string d) := (blk_cell k3.out 1).trans rfl; have e50 : W2.cell? ⟨b5, 0, none⟩ = some (.int .i64 4) := (blk_cell k5.out 0).trans rfl; have e51 : W2.cell? ⟨b5, 1, none⟩ = some (.int .i64 ec) := (blk_cell k5.out 1).trans rfl; have e52 : W2.cell? ⟨b5, 2, none⟩ = some (.int .u8 ed) := (blk_cell k5.out 2).trans rfl; have e60 : W2.cell? ⟨b6, 0, none⟩ = some (.int .i64 0) := (blk_cell k6.out 0).trans rfl; have e61 : W2.cell? ⟨b6, 1, none⟩ = some (.string ⟨#[]⟩) := (blk_cell k6.out 1).trans rfl; have f60 : W2.frozen? ⟨b6, 0, none⟩ = false := blk_frozen k6.out 0; have f61 : W2.frozen? ⟨b6, 1, none⟩ = false := blk_frozen k6.out 1))
      exact colR_end (blk_put (blk_put k6.out 0 (.int .i64 5) rfl) 1 (.string ⟨#[]⟩) rfl) rfl rfl rfl rfl ⟨_, rfl, Kd.R_set (Kd.R_set hR.out k6.out (by decide) 0 _) (blk_put k6.out 0 (.int .i64 5) rfl) (by decide) 1 _, below_set (below_set hB.out g6.out) g6.out⟩
    · rw [if_neg hd] at h
      have hse := empty_flag hd
      clear hd
      obtain ⟨⟨x, y, z⟩, hA, h⟩ := Option.bind_eq_some_iff.1 h
      simp only at h
      replace hA := Aside0.mk hA
      cases hi : inB l1 x y with
      | false => rw [hi, if_neg (by decide)] at h; cases h
      | true =>
        rw [hi, if_pos rfl] at h
        obtain ⟨o, ho⟩ : ∃ o, o = decP l1 d x y [] := ⟨_, rfl⟩
        rw [← ho] at h
        simp only [Option.some.injEq, Prod.mk.injEq] at h
        obtain ⟨rfl, rfl, rfl, rfl⟩ := h
        replace ho := Aside0.mk ho
        replace hi := Aside0.mk hi
        go_upto_region 8 with (first | (go_at_call 77; refine (crossbarref08_Analyze.calls k A1 c1 l1 d true x y z _ (Kd.C_below HR1.out hB.out) HC1.out hA.out).mono ?_; rintro e W1 ⟨rfl, hB1⟩; replace k3 := Aside0.mk (blk_below k3.out hB1); replace k5 := Aside0.mk (blk_below k5.out hB1); replace k6 := Aside0.mk (blk_below k6.out hB1); replace hB := Aside0.mk (below_then hB.out hB.out.size hB1); clear hB1; clear e30 e31 e50 e51 e52 e60 e61 f60 f61; have e30 : W1.cell? ⟨b3, 0, none⟩ = some (.int .i64 st) := (blk_cell k3.out 0).trans rfl; have e31 : W1.cell? ⟨b3, 1, none⟩ = some (.string d) := (blk_cell k3.out 1).trans rfl; have e50 : W1.cell? ⟨b5, 0, none⟩ = some (.int .i64 4) := (blk_cell k5.out 0).trans rfl; have e51 : W1.cell? ⟨b5, 1, none⟩ = some (.int .i64 ec) := (blk_cell k5.out 1).trans rfl; have e52 : W1.cell? ⟨b5, 2, none⟩ = some (.int .u8 ed) := (blk_cell k5.out 2).trans rfl; have e60 : W1.cell? ⟨b6, 0, none⟩ = some (.int .i64 0) := (blk_cell k6.out 0).trans rfl; have e61 : W1.cell? ⟨b6, 1, none⟩ = some (.string ⟨#[]⟩) := (blk_cell k6.out 1).trans rfl; have f60 : W1.frozen? ⟨b6, 0, none⟩ = false := blk_frozen k6.out 0; have f61 : W1.frozen? ⟨b6, 1, none⟩ = false := blk_frozen k6.out 1))
        obtain ⟨W2, hW2⟩ : ∃ W2, W1.alloc (.cells #[.int .i64 x, .int .i64 y] 26) = W2 := ⟨_, rfl⟩
        rw [hW2]
        have k11 := Aside0.mk (show W2.heap[W1.heap.size]? = some (.cells #[.int .i64 x, .int .i64 y] 26 (0, 0)) by rw [← hW2]; exact blk_new _ _)
        have hB1 : Below W1.heap.size W1 W2 := by rw [← hW2]; exact below_alloc (Below.refl _ _) _
        obtain ⟨b11, hb11⟩ : ∃ b11, W1.heap.size = b11 := ⟨_, rfl⟩
        rw [hb11] at k11 ⊢
        have e110 : W2.cell? ⟨b11, 0, none⟩ = some (.int .i64 x) := (blk_cell k11.out 0).trans rfl
        have e111 : W2.cell? ⟨b11, 1, none⟩ = some (.int .i64 y) := (blk_cell k11.out 1).trans rfl
        replace k3 := Aside0.mk (blk_below k3.out hB1)
        replace k5 := Aside0.mk (blk_below k5.out hB1)
        replace k6 := Aside0.mk (blk_below k6.out hB1)
        replace hB := Aside0.mk (below_then hB.out hB.out.size hB1)
        clear hB1
        clear e30 e31 e50 e51 e52 e60 e61 f60 f61
        have e30 : W2.cell? ⟨b3, 0, none⟩ = some (.int .i64 st) := (blk_cell k3.out 0).trans rfl
        have e31 : W2.cell? ⟨b3, 1, none⟩ = some (.string d) := (blk_cell k3.out 1).trans rfl
        have e50 : W2.cell? ⟨b5, 0, none⟩ = some (.int .i64 4) := (blk_cell k5.out 0).trans rfl
        have e51 : W2.cell? ⟨b5, 1, none⟩ = some (.int .i64 ec) := (blk_cell k5.out 1).trans rfl
        have e52 : W2.cell? ⟨b5, 2, none⟩ = some (.int .u8 ed) := (blk_cell k5.out 2).trans rfl
        have e60 : W2.cell? ⟨b6, 0, none⟩ = some (.int .i64 0) := (blk_cell k6.out 0).trans rfl
        have e61 : W2.cell? ⟨b6, 1, none⟩ = some (.string ⟨#[]⟩) := (blk_cell k6.out 1).trans rfl
        have f60 : W2.frozen? ⟨b6, 0, none⟩ = false := blk_frozen k6.out 0
        have f61 : W2.frozen? ⟨b6, 1, none⟩ = false := blk_frozen k6.out 1
        clear hW2 hb11
        go_upto_region 9 with (first | (go_at_call 78; refine (decR_in W2 W2 (Below.refl _ _) none 0 0 [] (Kd.R_nil _ _ _ _ _) (by decide) A1 c1 l1 (Kd.C_below HR1.out hB.out) HC1.out d x y (inB_out hi.out) o ho.out).mono ?_; rintro e W3 ⟨v2, rfl, hR2, hB1⟩; obtain ⟨AL, LL, cL, hvL⟩ := R_shape hR2; subst hvL; have hR := Aside0.mk (Kd.R_lower hR2 (below_size hB.out)); clear hR2 e110 e111; replace k3 := Aside0.mk (blk_below k3.out hB1); replace k5 := Aside0.mk (blk_below k5.out hB1); replace k6 := Aside0.mk (blk_below k6.out hB1); replace hB := Aside0.mk (below_then hB.out hB.out.size hB1); clear hB1; clear e30 e31 e50 e51 e52 e60 e61 f60 f61; have e30 : W3.cell? ⟨b3, 0, none⟩ = some (.int .i64 st) := (blk_cell k3.out 0).trans rfl; have e31 : W3.cell? ⟨b3, 1, none⟩ = some (.string d) := (blk_cell k3.out 1).trans rfl; have e50 : W3.cell? ⟨b5, 0, none⟩ = some (.int .i64 4) := (blk_cell k5.out 0).trans rfl; have e51 : W3.cell? ⟨b5, 1, none⟩ = some (.int .i64 ec) := (blk_cell k5.out 1).trans rfl; have e52 : W3.cell? ⟨b5, 2, none⟩ = some (.int .u8 ed) := (blk_cell k5.out 2).trans rfl; have e60 : W3.cell? ⟨b6, 0, none⟩ = some (.int .i64 0) := (blk_cell k6.out 0).trans rfl; have e61 : W3.cell? ⟨b6, 1, none⟩ = some (.string ⟨#[]⟩) := (blk_cell k6.out 1).trans rfl; have f60 : W3.frozen? ⟨b6, 0, none⟩ = false := blk_frozen k6.out 0; have f61 : W3.frozen? ⟨b6, 1, none⟩ = false := blk_frozen k6.out 1))
        obtain ⟨W4, hW3⟩ : ∃ W4, W3.alloc (.cells #[.int .i64 o.1, .string o.2.1] 45) = W4 := ⟨_, rfl⟩
        rw [hW3]
        have k9 : W4.heap[W3.heap.size]? = some (.cells #[.int .i64 o.1, .string o.2.1] 45 (0, 0)) := by rw [← hW3]; exact blk_new _ _
        have hB1 : Below W3.heap.size W3 W4 := by rw [← hW3]; exact below_alloc (Below.refl _ _) _
        replace hR := Aside0.mk (Kd.R_below hR.out hB1)
        obtain ⟨b13, hb9⟩ : ∃ b13, W3.heap.size = b13 := ⟨_, rfl⟩
        rw [hb9] at k9 ⊢
        have e90 : W4.cell? ⟨b13, 0, none⟩ = some (.int .i64 o.1) := (blk_cell k9 0).trans rfl
        have e91 : W4.cell? ⟨b13, 1, none⟩ = some (.string o.2.1) := (blk_cell k9 1).trans rfl
        replace k9 := Aside0.mk k9
        replace k3 := Aside0.mk (blk_below k3.out hB1)
        replace k5 := Aside0.mk (blk_below k5.out hB1)
        replace k6 := Aside0.mk (blk_below k6.out hB1)
        replace hB := Aside0.mk (below_then hB.out hB.out.size hB1)
        clear hB1
        clear e30 e31 e50 e51 e52 e60 e61 f60 f61
        have e30 : W4.cell? ⟨b3, 0, none⟩ = some (.int .i64 st) := (blk_cell k3.out 0).trans rfl
        have e31 : W4.cell? ⟨b3, 1, none⟩ = some (.string d) := (blk_cell k3.out 1).trans rfl
        have e50 : W4.cell? ⟨b5, 0, none⟩ = some (.int .i64 4) := (blk_cell k5.out 0).trans rfl
        have e51 : W4.cell? ⟨b5, 1, none⟩ = some (.int .i64 ec) := (blk_cell k5.out 1).trans rfl
        have e52 : W4.cell? ⟨b5, 2, none⟩ = some (.int .u8 ed) := (blk_cell k5.out 2).trans rfl
        have e60 : W4.cell? ⟨b6, 0, none⟩ = some (.int .i64 0) := (blk_cell k6.out 0).trans rfl
        have e61 : W4.cell? ⟨b6, 1, none⟩ = some (.string ⟨#[]⟩) := (blk_cell k6.out 1).trans rfl
        have f60 : W4.frozen? ⟨b6, 0, none⟩ = false := blk_frozen k6.out 0
        have f61 : W4.frozen? ⟨b6, 1, none⟩ = false := blk_frozen k6.out 1
        clear hW3 hb9
        go_wp2
        exact colR_end (blk_put (blk_put k6.out 0 (.int .i64 o.1) rfl) 1 (.string o.2.1) rfl) rfl rfl rfl rfl ⟨_, rfl, Kd.R_set (Kd.R_set hR.out k6.out (by decide) 0 _) (blk_put k6.out 0 (.int .i64 o.1) rfl) (by decide) 1 _, below_set (below_set hB.out g6.out) g6.out⟩
  by_cases h2 : ek = 2
  · subst h2
    rw [if_neg (by decide), if_neg (by decide), if_pos rfl] at h
    simp only [Option.some.injEq, Prod.mk.injEq] at h
    obtain ⟨rfl, rfl, rfl, rfl⟩ := h
    go_wp2_with (first | (go_at_call 54; refine (actR_in 10 _).mono ?_; rintro e W1 ⟨rfl, hB1⟩; replace k3 := Aside0.mk (blk_below k3.out hB1); replace k5 := Aside0.mk (blk_below k5.out hB1); replace k6 := Aside0.mk (blk_below k6.out hB1); replace hB := Aside0.mk (below_then hB.out hB.out.size hB1); clear hB1; clear e30 e31 e50 e51 e52 e60 e61 f60 f61; have e30 : W1.cell? ⟨b3, 0, none⟩ = some (.int .i64 st) := (blk_cell k3.out 0).trans rfl; have e31 : W1.cell? ⟨b3, 1, none⟩ = some (.string d) := (blk_cell k3.out 1).trans rfl; have e50 : W1.cell? ⟨b5, 0, none⟩ = some (.int .i64 2) := (blk_cell k5.out 0).trans rfl; have e51 : W1.cell? ⟨b5, 1, none⟩ = some (.int .i64 ec) := (blk_cell k5.out 1).trans rfl; have e52 : W1.cell? ⟨b5, 2, none⟩ = some (.int .u8 ed) := (blk_cell k5.out 2).trans rfl; have e60 : W1.cell? ⟨b6, 0, none⟩ = some (.int .i64 0) := (blk_cell k6.out 0).trans rfl; have e61 : W1.cell? ⟨b6, 1, none⟩ = some (.string ⟨#[]⟩) := (blk_cell k6.out 1).trans rfl; have f60 : W1.frozen? ⟨b6, 0, none⟩ = false := blk_frozen k6.out 0; have f61 : W1.frozen? ⟨b6, 1, none⟩ = false := blk_frozen k6.out 1) | (go_at_call 54; refine (actR_in 2 _).mono ?_; rintro e W2 ⟨rfl, hB1⟩; replace k3 := Aside0.mk (blk_below k3.out hB1); replace k5 := Aside0.mk (blk_below k5.out hB1); replace k6 := Aside0.mk (blk_below k6.out hB1); replace hB := Aside0.mk (below_then hB.out hB.out.size hB1); clear hB1; clear e30 e31 e50 e51 e52 e60 e61 f60 f61; have e30 : W2.cell? ⟨b3, 0, none⟩ = some (.int .i64 st) := (blk_cell k3.out 0).trans rfl; have e31 : W2.cell? ⟨b3, 1, none⟩ = some (.string d) := (blk_cell k3.out 1).trans rfl; have e50 : W2.cell? ⟨b5, 0, none⟩ = some (.int .i64 2) := (blk_cell k5.out 0).trans rfl; have e51 : W2.cell? ⟨b5, 1, none⟩ = some (.int .i64 ec) := (blk_cell k5.out 1).trans rfl; have e52 : W2.cell? ⟨b5, 2, none⟩ = some (.int .u8 ed) := (blk_cell k5.out 2).trans rfl; have e60 : W2.cell? ⟨b6, 0, none⟩ = some (.int .i64 0) := (blk_cell k6.out 0).trans rfl; have e61 : W2.cell? ⟨b6, 1, none⟩ = some (.string ⟨#[]⟩) := (blk_cell k6.out 1).trans rfl; have f60 : W2.frozen? ⟨b6, 0, none⟩ = false := blk_frozen k6.out 0; have f61 : W2.frozen? ⟨b6, 1, none⟩ = false := blk_frozen k6.out 1) | ((with_reducible refine gate_dst (N := 69) rfl ?_); refine Kd.R_lit k62 _ 62 ?hg (N := 69) ?hd (xs := ([⟨10, 0, ⟨#[]⟩, 0⟩, ⟨2, 0, ⟨#[]⟩, 0⟩] : Al)) (inner := [.int .i64 10, .int .i64 0, .string ⟨#[]⟩, .int .i64 0, .int .i64 2, .int .i64 0, .string ⟨#[]⟩, .int .i64 0]) (ok := fun _ => True) (okp := fun _ => True) ?hr ?hp (fun _ hk => hk) trivial (Below.refl _ _) (Nat.le_refl _) (by simp) ?_; (case hd => rfl); (case hg => rfl); (case hr => first | (go_simp; done) | (go_simp; rfl)); (case hp => exact (Reps.c4 (show Kd.M k62 _ _ _ (⟨10, 0, ⟨#[]⟩, 0⟩ : S62) [.int .i64 10, .int .i64 0, .string ⟨#[]⟩, .int .i64 0] from k62_mkM _ _ _ _) (Reps.c4 (show Kd.M k62 _ _ _ (⟨2, 0, ⟨#[]⟩, 0⟩ : S62) [.int .i64 2, .int .i64 0, .string ⟨#[]⟩, .int .i64 0] from k62_mkM _ _ _ _) (Reps.none _ _)))); intro vL W3 hoL hB1 hg_ hnew_; clear hg_ hnew_; obtain ⟨AL, LL, cL, hvL⟩ := R_shape hoL; subst hvL; have hR := Aside0.mk (Kd.R_lower hoL (below_size hB.out)); clear hoL; replace k3 := Aside0.mk (blk_below k3.out hB1); replace k5 := Aside0.mk (blk_below k5.out hB1); replace k6 := Aside0.mk (blk_below k6.out hB1); replace hB := Aside0.mk (below_then hB.out hB.out.size hB1); clear hB1; clear e30 e31 e50 e51 e52 e60 e61 f60 f61; have e30 : W3.cell? ⟨b3, 0, none⟩ = some (.int .i64 st) := (blk_cell k3.out 0).trans rfl; have e31 : W3.cell? ⟨b3, 1, none⟩ = some (.string d) := (blk_cell k3.out 1).trans rfl; have e50 : W3.cell? ⟨b5, 0, none⟩ = some (.int .i64 2) := (blk_cell k5.out 0).trans rfl; have e51 : W3.cell? ⟨b5, 1, none⟩ = some (.int .i64 ec) := (blk_cell k5.out 1).trans rfl; have e52 : W3.cell? ⟨b5, 2, none⟩ = some (.int .u8 ed) := (blk_cell k5.out 2).trans rfl; have e60 : W3.cell? ⟨b6, 0, none⟩ = some (.int .i64 0) := (blk_cell k6.out 0).trans rfl; have e61 : W3.cell? ⟨b6, 1, none⟩ = some (.string ⟨#[]⟩) := (blk_cell k6.out 1).trans rfl; have f60 : W3.frozen? ⟨b6, 0, none⟩ = false := blk_frozen k6.out 0; have f61 : W3.frozen? ⟨b6, 1, none⟩ = false := blk_frozen k6.out 1))
    exact colR_end (blk_put (blk_put k6.out 0 (.int .i64 0) rfl) 1 (.string ⟨#[]⟩) rfl) rfl rfl rfl rfl ⟨_, rfl, Kd.R_set (Kd.R_set hR.out k6.out (by decide) 0 _) (blk_put k6.out 0 (.int .i64 0) rfl) (by decide) 1 _, below_set (below_set hB.out g6.out) g6.out⟩
  rw [if_neg h3, if_neg h4, if_neg h2] at h
  simp only [Option.some.injEq, Prod.mk.injEq] at h
  obtain ⟨rfl, rfl, rfl, rfl⟩ := h
  have d3 : (ek == 3) = false := beq_eq_false_iff_ne.2 h3
  have d4 : (ek == 4) = false := beq_eq_false_iff_ne.2 h4
  have d2 : (ek == 2) = false := beq_eq_false_iff_ne.2 h2
  clear h3 h4 h2
  go_wp2
  exact colR_end (blk_put (blk_put k6.out 0 (.int .i64 0) rfl) 1 (.string ⟨#[]⟩) rfl) rfl rfl rfl rfl ⟨_, rfl, Kd.R_nil _ _ _ _ _, below_set (below_set hB.out g6.out) g6.out⟩

end Go.Proofs.YthknfclhkmehgaaDoor.Fn
namespace Go.Proofs.YthknfclhkmehgaaDoor.Fn
open Go.RowKit Go.Maps Go.Proofs.YthknfclhkmehgaaDoorW.PrintWords Go.Proofs.YthknfclhkmehgaaDoorW.PrintLast Go.Proofs.YthknfclhkmehgaaDoorW.PrintMore
set_option linter.unusedVariables false
set_option linter.unusedSimpArgs false

theorem refS_end {Post : Ending → World → Prop} {W : World} {a : Act} {b6 : Nat} {s : Int} {dd : ByteArray} {v : Value} {e4 : Int} (h : W.heap[b6]? = some (.cells #[.int .i64 s, .string dd] 45 (0, 0))) (h6 : a.tmps[6]? = some (.pointer (some ⟨b6, 0, none⟩))) (h7 : a.tmps[7]? = some v) (h8 : a.tmps[8]? = some (.int .i64 e4)) (hd : a.defers = []) (hP : Post (.returned (.tuple #[.agg #[.int .i64 s, .string dd], v, .int .i64 e4])) W) :
    bodyPost Tryd.prog Tryd.f25 Post Exit.ret a W := by
  have hu45 := Tryd.underlying45
  have hc0 : W.cell? ⟨b6, 0, none⟩ = some (.int .i64 s) := (blk_cell h 0).trans rfl
  have hc1 : W.cell? ⟨b6, 1, none⟩ = some (.string dd) := (blk_cell h 1).trans rfl
  refine bodyPost_ret (v := .tuple #[.agg #[.int .i64 s, .string dd], v, .int .i64 e4]) ?_ hd hP
  obtain ⟨tmps, defers⟩ := a
  dsimp only at h6 h7 h8
  simp [results, Tryd.f25, go_sem, hc0, hc1, h6, h7, h8, hu45]
theorem EventR_bad (ek ec ed : Int) (hb : badE ek ec ed = true) (w : World) : Calls Tryd.prog 52 #[.agg #[.int .i64 ek, .int .i64 ec, .int .u8 ed]] w fun e w' => e = .returned (.bool false) ∧ Below w.heap.size w w' := by
  have h := EventR_in ek ec ed w
  rw [hb] at h
  exact h
theorem EventR_good (ek ec ed : Int) (hb : badE ek ec ed = false) (w : World) : Calls Tryd.prog 52 #[.agg #[.int .i64 ek, .int .i64 ec, .int .u8 ed]] w fun e w' => e = .returned (.bool true) ∧ Below w.heap.size w w' := by
  have h := EventR_in ek ec ed w
  rw [hb] at h
  exact h
def refT (st : Int) (d : ByteArray) (ek ec : Int) : Int × ByteArray × Al × Int :=
  if ek = 3 then (st, d, [], 0)
  else if st = 0 ∧ ek = 1 then (1, ⟨#[]⟩, [⟨1, 0, ⟨#[]⟩, 0⟩, ⟨9, 0, ⟨#[]⟩, 10⟩], 0)
  else if st = 2 ∧ ek = 6 then (st, d, [], 0)
  else if st = 2 ∧ ek = 7 then (3, ⟨#[]⟩, [⟨4, 0, ⟨#[]⟩, 0⟩], 0)
  else if (st = 2 ∨ st = 3) ∧ ek = 8 then (4, ⟨#[]⟩, [⟨2, 0, ⟨#[]⟩, 0⟩, ⟨8, 0, ⟨#[]⟩, 0⟩], 0)
  else if (st = 2 ∨ st = 3 ∨ st = 4) ∧ ek = 9 then (5, ⟨#[]⟩, [⟨3, ec, ⟨#[]⟩, 0⟩], 0)
  else if (st = 2 ∨ st = 3 ∨ st = 4) ∧ ek = 2 then (0, ⟨#[]⟩, [⟨2, 0, ⟨#[]⟩, 0⟩, ⟨7, 16, ⟨#[]⟩, 0⟩], 0)
  else if st = 5 ∧ ek = 2 then (0, ⟨#[]⟩, [⟨2, 0, ⟨#[]⟩, 0⟩], 0)
  else (0, ⟨#[]⟩, [], 160)
noncomputable def crossbarref16_Step.f (k : Nat) (st : Int) (d : ByteArray) (l : Rl) (ek ec ed : Int) : Option (Int × ByteArray × Al × Int) :=
  (crossbarref16_Check.f k st d l).bind fun r => if r ≠ 0 then some (0, ⟨#[]⟩, [], r) else if badE ek ec ed = true then some (0, ⟨#[]⟩, [], 1) else if st = 1 then colRF k l d ek ed else if 0 ≤ st ∧ st ≤ 5 then some (refT st d ek ec) else none
theorem digRF.mono (l : Rl) (d : ByteArray) (ed : Int) (k : Nat) : LeO (digRF k l d ed) (digRF (k + 1) l d ed) := LeO.ite (LeO.bind (crossbarref08_Analyze.mono _ _ _ k) (fun _ => LeO.refl _)) (LeO.refl _)
theorem colRF.mono (l : Rl) (d : ByteArray) (ek ed : Int) (k : Nat) : LeO (colRF k l d ek ed) (colRF (k + 1) l d ek ed) :=
  LeO.ite (LeO.bind (digRF.mono _ _ _ k) (fun _ => LeO.refl _)) (LeO.ite (LeO.ite (LeO.refl _) (LeO.bind (crossbarref08_Analyze.mono _ _ _ k) (fun _ => LeO.refl _))) (LeO.refl _))
theorem crossbarref16_Step.mono : ∀ a0 a1 a2 a3 a4 a5 k, LeO (crossbarref16_Step.f k a0 a1 a2 a3 a4 a5) (crossbarref16_Step.f (k + 1) a0 a1 a2 a3 a4 a5) := fun _ _ _ _ _ _ k =>
  LeO.bind (crossbarref16_Check.mono _ _ _ k) (fun _ => LeO.ite (LeO.refl _) (LeO.ite (LeO.refl _) (LeO.ite (colRF.mono _ _ _ _ k) (LeO.refl _))))
set_option maxHeartbeats 8000000 in
set_option maxRecDepth 100000 in
theorem crossbarref16_Step.calls (k : Nat) (st : Int) (d : ByteArray) (A1 : Option Addr) (c1 : Nat) (l1 : Rl) (ek ec ed : Int) (r1 : Int) (r2 : ByteArray) (r3 : Al) (r4 : Int) (w : World) (hr1 : Kd.C k35 w A1 l1.length l1) (hc1 : l1.length ≤ c1) (h : crossbarref16_Step.f k st d l1 ek ec ed = some (r1, r2, r3, r4)) :
    Calls Tryd.prog 25 #[.agg #[.int .i64 st, .string d], .slice A1 l1.length c1, .agg #[.int .i64 ek, .int .i64 ec, .int .u8 ed]] w fun e w' => ∃ v2_, e = .returned (.tuple #[.agg #[.int .i64 r1, .string r2], v2_, .int .i64 r4]) ∧ Kd.R k62 62 w' w.heap.size (fun _ => True) v2_ r3 ∧ Below w.heap.size w w' := by
  have hu26 := Tryd.underlying26
  have hu45 := Tryd.underlying45
  have hu47 := Tryd.underlying47
  have hu62 := Tryd.underlying62
  have HR1 := Aside0.mk hr1
  have HC1 := Aside0.mk hc1
  clear hr1 hc1
  unfold crossbarref16_Step.f at h
  obtain ⟨rc, hK, h⟩ := Option.bind_eq_some_iff.1 h
  replace hK := Aside0.mk hK
  go_enter Tryd.func25, Tryd.ntmps25
  go_upto_region 1 with (fail)
  obtain ⟨W0, hW0⟩ : ∃ W0, ((w.alloc (.cells #[.int .i64 st, .string d] 45)).alloc (.cells #[.int .i64 ek, .int .i64 ec, .int .u8 ed] 47)).alloc (.cells #[.int .i64 0, .string ⟨#[]⟩] 45) = W0 := ⟨_, rfl⟩
  rw [hW0]
  obtain ⟨b6, hb6⟩ : ∃ b6, b6 = w.heap.size + 1 + 1 := ⟨_, rfl⟩
  rw [← hb6]
  obtain ⟨b5, hb5⟩ : ∃ b5, b5 = w.heap.size + 1 := ⟨_, rfl⟩
  rw [← hb5]
  have hB := Aside0.mk (show Below w.heap.size w W0 by rw [← hW0]; exact below_alloc (below_alloc (below_alloc (Below.refl _ _) _) _) _)
  have k3 : W0.heap[w.heap.size]? = some (.cells #[.int .i64 st, .string d] 45 (0, 0)) := by rw [← hW0]; exact blk_alloc (blk_alloc (blk_new w _) _) _
  have k5 : W0.heap[b5]? = some (.cells #[.int .i64 ek, .int .i64 ec, .int .u8 ed] 47 (0, 0)) := by
    have h1 := blk_new (w.alloc (.cells #[.int .i64 st, .string d] 45)) (.cells #[.int .i64 ek, .int .i64 ec, .int .u8 ed] 47)
    rw [World.size_alloc, ← hb5] at h1
    rw [← hW0]
    exact blk_alloc h1 _
  have k6 : W0.heap[b6]? = some (.cells #[.int .i64 0, .string ⟨#[]⟩] 45 (0, 0)) := by
    have h1 := blk_new ((w.alloc (.cells #[.int .i64 st, .string d] 45)).alloc (.cells #[.int .i64 ek, .int .i64 ec, .int .u8 ed] 47)) (.cells #[.int .i64 0, .string ⟨#[]⟩] 45)
    rw [World.size_alloc, World.size_alloc, ← hb6] at h1
    rw [← hW0]
    exact h1
  have g6 := Aside0.mk (show w.heap.size ≤ b6 by omega)
  obtain ⟨b3, hb3⟩ : ∃ b3, w.heap.size = b3 := ⟨_, rfl⟩
  rw [hb3] at k3 ⊢
  replace k3 := Aside0.mk k3
  replace k5 := Aside0.mk k5
  replace k6 := Aside0.mk k6
  clear hW0 hb6 hb5
  replace hb3 := Aside0.mk hb3
  have e30 : W0.cell? ⟨b3, 0, none⟩ = some (.int .i64 st) := (blk_cell k3.out 0).trans rfl
  have e31 : W0.cell? ⟨b3, 1, none⟩ = some (.string d) := (blk_cell k3.out 1).trans rfl
  have e50 : W0.cell? ⟨b5, 0, none⟩ = some (.int .i64 ek) := (blk_cell k5.out 0).trans rfl
  have e51 : W0.cell? ⟨b5, 1, none⟩ = some (.int .i64 ec) := (blk_cell k5.out 1).trans rfl
  have e52 : W0.cell? ⟨b5, 2, none⟩ = some (.int .u8 ed) := (blk_cell k5.out 2).trans rfl
  have e60 : W0.cell? ⟨b6, 0, none⟩ = some (.int .i64 0) := (blk_cell k6.out 0).trans rfl
  have e61 : W0.cell? ⟨b6, 1, none⟩ = some (.string ⟨#[]⟩) := (blk_cell k6.out 1).trans rfl
  have f60 : W0.frozen? ⟨b6, 0, none⟩ = false := blk_frozen k6.out 0
  have f61 : W0.frozen? ⟨b6, 1, none⟩ = false := blk_frozen k6.out 1
  by_cases hrc : rc = 0
  rotate_left
  · rw [if_pos hrc] at h
    simp only [Option.some.injEq, Prod.mk.injEq] at h
    obtain ⟨rfl, rfl, rfl, rfl⟩ := h
    have hrn : (rc != 0) = true := bne_iff_ne.2 hrc
    have hre : (rc == 0) = false := beq_eq_false_iff_ne.2 hrc
    have hrd : decide (rc = 0) = false := decide_eq_false hrc
    clear hrc
    go_wp2_with (first | (go_at_call 28; refine (crossbarref16_Check.calls k st d A1 c1 l1 rc _ (Kd.C_below HR1.out hB.out) HC1.out hK.out).mono ?_; rintro e W1 ⟨rfl, hB1⟩; replace k3 := Aside0.mk (blk_below k3.out hB1); replace k5 := Aside0.mk (blk_below k5.out hB1); replace k6 := Aside0.mk (blk_below k6.out hB1); replace hB := Aside0.mk (below_then hB.out hB.out.size hB1); clear hB1; clear e30 e31 e50 e51 e52 e60 e61 f60 f61; have e30 : W1.cell? ⟨b3, 0, none⟩ = some (.int .i64 st) := (blk_cell k3.out 0).trans rfl; have e31 : W1.cell? ⟨b3, 1, none⟩ = some (.string d) := (blk_cell k3.out 1).trans rfl; have e50 : W1.cell? ⟨b5, 0, none⟩ = some (.int .i64 ek) := (blk_cell k5.out 0).trans rfl; have e51 : W1.cell? ⟨b5, 1, none⟩ = some (.int .i64 ec) := (blk_cell k5.out 1).trans rfl; have e52 : W1.cell? ⟨b5, 2, none⟩ = some (.int .u8 ed) := (blk_cell k5.out 2).trans rfl; have e60 : W1.cell? ⟨b6, 0, none⟩ = some (.int .i64 0) := (blk_cell k6.out 0).trans rfl; have e61 : W1.cell? ⟨b6, 1, none⟩ = some (.string ⟨#[]⟩) := (blk_cell k6.out 1).trans rfl; have f60 : W1.frozen? ⟨b6, 0, none⟩ = false := blk_frozen k6.out 0; have f61 : W1.frozen? ⟨b6, 1, none⟩ = false := blk_frozen k6.out 1))
    exact refS_end (blk_put (blk_put k6.out 0 (.int .i64 0) rfl) 1 (.string ⟨#[]⟩) rfl) rfl rfl rfl rfl ⟨_, rfl, Kd.R_nil _ _ _ _ _, below_set (below_set hB.out g6.out) g6.out⟩
  subst hrc
  rw [if_neg (by simp)] at h
  cases hb : badE ek ec ed with
  | true =>
    rw [hb, if_pos rfl] at h
    simp only [Option.some.injEq, Prod.mk.injEq] at h
    obtain ⟨rfl, rfl, rfl, rfl⟩ := h
    replace hb := Aside0.mk hb
    go_wp2_with (first | (go_at_call 28; refine (crossbarref16_Check.calls k st d A1 c1 l1 0 _ (Kd.C_below HR1.out hB.out) HC1.out hK.out).mono ?_; rintro e W1 ⟨rfl, hB1⟩; replace k3 := Aside0.mk (blk_below k3.out hB1); replace k5 := Aside0.mk (blk_below k5.out hB1); replace k6 := Aside0.mk (blk_below k6.out hB1); replace hB := Aside0.mk (below_then hB.out hB.out.size hB1); clear hB1; clear e30 e31 e50 e51 e52 e60 e61 f60 f61; have e30 : W1.cell? ⟨b3, 0, none⟩ = some (.int .i64 st) := (blk_cell k3.out 0).trans rfl; have e31 : W1.cell? ⟨b3, 1, none⟩ = some (.string d) := (blk_cell k3.out 1).trans rfl; have e50 : W1.cell? ⟨b5, 0, none⟩ = some (.int .i64 ek) := (blk_cell k5.out 0).trans rfl; have e51 : W1.cell? ⟨b5, 1, none⟩ = some (.int .i64 ec) := (blk_cell k5.out 1).trans rfl; have e52 : W1.cell? ⟨b5, 2, none⟩ = some (.int .u8 ed) := (blk_cell k5.out 2).trans rfl; have e60 : W1.cell? ⟨b6, 0, none⟩ = some (.int .i64 0) := (blk_cell k6.out 0).trans rfl; have e61 : W1.cell? ⟨b6, 1, none⟩ = some (.string ⟨#[]⟩) := (blk_cell k6.out 1).trans rfl; have f60 : W1.frozen? ⟨b6, 0, none⟩ = false := blk_frozen k6.out 0; have f61 : W1.frozen? ⟨b6, 1, none⟩ = false := blk_frozen k6.out 1) | (go_at_call 52; refine (EventR_bad ek ec ed hb.out _).mono ?_; rintro e W2 ⟨rfl, hB1⟩; replace k3 := Aside0.mk (blk_below k3.out hB1); replace k5 := Aside0.mk (blk_below k5.out hB1); replace k6 := Aside0.mk (blk_below k6.out hB1); replace hB := Aside0.mk (below_then hB.out hB.out.size hB1); clear hB1; clear e30 e31 e50 e51 e52 e60 e61 f60 f61; have e30 : W2.cell? ⟨b3, 0, none⟩ = some (.int .i64 st) := (blk_cell k3.out 0).trans rfl; have e31 : W2.cell? ⟨b3, 1, none⟩ = some (.string d) := (blk_cell k3.out 1).trans rfl; have e50 : W2.cell? ⟨b5, 0, none⟩ = some (.int .i64 ek) := (blk_cell k5.out 0).trans rfl; have e51 : W2.cell? ⟨b5, 1, none⟩ = some (.int .i64 ec) := (blk_cell k5.out 1).trans rfl; have e52 : W2.cell? ⟨b5, 2, none⟩ = some (.int .u8 ed) := (blk_cell k5.out 2).trans rfl; have e60 : W2.cell? ⟨b6, 0, none⟩ = some (.int .i64 0) := (blk_cell k6.out 0).trans rfl; have e61 : W2.cell? ⟨b6, 1, none⟩ = some (.string ⟨#[]⟩) := (blk_cell k6.out 1).trans rfl; have f60 : W2.frozen? ⟨b6, 0, none⟩ = false := blk_frozen k6.out 0; have f61 : W2.frozen? ⟨b6, 1, none⟩ = false := blk_frozen k6.out 1))
    exact refS_end (blk_put (blk_put k6.out 0 (.int .i64 0) rfl) 1 (.string ⟨#[]⟩) rfl) rfl rfl rfl rfl ⟨_, rfl, Kd.R_nil _ _ _ _ _, below_set (below_set hB.out g6.out) g6.out⟩
  | false =>
    rw [hb, if_neg (by decide)] at h
    replace hb := Aside0.mk hb
    go_upto_region 6 with (first | (go_at_call 28; refine (crossbarref16_Check.calls k st d A1 c1 l1 0 _ (Kd.C_below HR1.out hB.out) HC1.out hK.out).mono ?_; rintro e W1 ⟨rfl, hB1⟩; replace k3 := Aside0.mk (blk_below k3.out hB1); replace k5 := Aside0.mk (blk_below k5.out hB1); replace k6 := Aside0.mk (blk_below k6.out hB1); replace hB := Aside0.mk (below_then hB.out hB.out.size hB1); clear hB1; clear e30 e31 e50 e51 e52 e60 e61 f60 f61; have e30 : W1.cell? ⟨b3, 0, none⟩ = some (.int .i64 st) := (blk_cell k3.out 0).trans rfl; have e31 : W1.cell? ⟨b3, 1, none⟩ = some (.string d) := (blk_cell k3.out 1).trans rfl; have e50 : W1.cell? ⟨b5, 0, none⟩ = some (.int .i64 ek) := (blk_cell k5.out 0).trans rfl; have e51 : W1.cell? ⟨b5, 1, none⟩ = some (.int .i64 ec) := (blk_cell k5.out 1).trans rfl; have e52 : W1.cell? ⟨b5, 2, none⟩ = some (.int .u8 ed) := (blk_cell k5.out 2).trans rfl; have e60 : W1.cell? ⟨b6, 0, none⟩ = some (.int .i64 0) := (blk_cell k6.out 0).trans rfl; have e61 : W1.cell? ⟨b6, 1, none⟩ = some (.string ⟨#[]⟩) := (blk_cell k6.out 1).trans rfl; have f60 : W1.frozen? ⟨b6, 0, none⟩ = false := blk_frozen k6.out 0; have f61 : W1.frozen? ⟨b6, 1, none⟩ = false := blk_frozen k6.out 1) | (go_at_call 52; refine (EventR_good ek ec ed hb.out _).mono ?_; rintro e W2 ⟨rfl, hB1⟩; replace k3 := Aside0.mk (blk_below k3.out hB1); replace k5 := Aside0.mk (blk_below k5.out hB1); replace k6 := Aside0.mk (blk_below k6.out hB1); replace hB := Aside0.mk (below_then hB.out hB.out.size hB1); clear hB1; clear e30 e31 e50 e51 e52 e60 e61 f60 f61; have e30 : W2.cell? ⟨b3, 0, none⟩ = some (.int .i64 st) := (blk_cell k3.out 0).trans rfl; have e31 : W2.cell? ⟨b3, 1, none⟩ = some (.string d) := (blk_cell k3.out 1).trans rfl; have e50 : W2.cell? ⟨b5, 0, none⟩ = some (.int .i64 ek) := (blk_cell k5.out 0).trans rfl; have e51 : W2.cell? ⟨b5, 1, none⟩ = some (.int .i64 ec) := (blk_cell k5.out 1).trans rfl; have e52 : W2.cell? ⟨b5, 2, none⟩ = some (.int .u8 ed) := (blk_cell k5.out 2).trans rfl; have e60 : W2.cell? ⟨b6, 0, none⟩ = some (.int .i64 0) := (blk_cell k6.out 0).trans rfl; have e61 : W2.cell? ⟨b6, 1, none⟩ = some (.string ⟨#[]⟩) := (blk_cell k6.out 1).trans rfl; have f60 : W2.frozen? ⟨b6, 0, none⟩ = false := blk_frozen k6.out 0; have f61 : W2.frozen? ⟨b6, 1, none⟩ = false := blk_frozen k6.out 1))
    by_cases h1 : st = 1
    · subst h1
      rw [if_pos rfl] at h
      replace h := Aside0.mk h
      go_wp2_with (first | (go_at_call 53; refine (colR_in k 1 d A1 c1 l1 ek ec ed r1 r2 r3 r4 _ (Kd.C_below HR1.out hB.out) HC1.out h.out).mono ?_; rintro e W3 ⟨v2, rfl, hR2, hB1⟩; obtain ⟨AL, LL, cL, hvL⟩ := R_shape hR2; subst hvL; have hR := Aside0.mk (Kd.R_lower hR2 (below_size hB.out)); clear hR2; replace k3 := Aside0.mk (blk_below k3.out hB1); replace k5 := Aside0.mk (blk_below k5.out hB1); replace k6 := Aside0.mk (blk_below k6.out hB1); replace hB := Aside0.mk (below_then hB.out hB.out.size hB1); clear hB1; clear e30 e31 e50 e51 e52 e60 e61 f60 f61; have e30 : W3.cell? ⟨b3, 0, none⟩ = some (.int .i64 1) := (blk_cell k3.out 0).trans rfl; have e31 : W3.cell? ⟨b3, 1, none⟩ = some (.string d) := (blk_cell k3.out 1).trans rfl; have e50 : W3.cell? ⟨b5, 0, none⟩ = some (.int .i64 ek) := (blk_cell k5.out 0).trans rfl; have e51 : W3.cell? ⟨b5, 1, none⟩ = some (.int .i64 ec) := (blk_cell k5.out 1).trans rfl; have e52 : W3.cell? ⟨b5, 2, none⟩ = some (.int .u8 ed) := (blk_cell k5.out 2).trans rfl; have e60 : W3.cell? ⟨b6, 0, none⟩ = some (.int .i64 0) := (blk_cell k6.out 0).trans rfl; have e61 : W3.cell? ⟨b6, 1, none⟩ = some (.string ⟨#[]⟩) := (blk_cell k6.out 1).trans rfl; have f60 : W3.frozen? ⟨b6, 0, none⟩ = false := blk_frozen k6.out 0; have f61 : W3.frozen? ⟨b6, 1, none⟩ = false := blk_frozen k6.out 1))
      exact refS_end (blk_put (blk_put k6.out 0 (.int .i64 r1) rfl) 1 (.string r2) rfl) rfl rfl rfl rfl ⟨_, rfl, Kd.R_set (Kd.R_set hR.out k6.out (by decide) 0 _) (blk_put k6.out 0 (.int .i64 r1) rfl) (by decide) 1 _, below_set (below_set hB.out g6.out) g6.out⟩
    rw [if_neg h1] at h
    by_cases hst : 0 ≤ st ∧ st ≤ 5
    rotate_left
    · rw [if_neg hst] at h
      cases h
    rw [if_pos hst] at h
    have hs5 : st = 0 ∨ st = 2 ∨ st = 3 ∨ st = 4 ∨ st = 5 := by omega
    clear hst h1 hK
    rcases hs5 with rfl | rfl | rfl | rfl | rfl
    · by_cases e3 : ek = 3
      · subst e3
        have hX := Option.some.inj (show some ((0 : Int), d, ([] : Al), (0 : Int)) = some (r1, r2, r3, r4) from h)
        simp only [Prod.mk.injEq] at hX
        obtain ⟨rfl, rfl, rfl, rfl⟩ := hX
        clear h
        go_wp2
        exact refS_end (blk_put (blk_put k6.out 0 (.int .i64 0) rfl) 1 (.string d) rfl) rfl rfl rfl rfl ⟨_, rfl, Kd.R_nil _ _ _ _ _, below_set (below_set hB.out g6.out) g6.out⟩
      by_cases e1 : ek = 1
      · subst e1
        have hX := Option.some.inj (show some ((1 : Int), (⟨#[]⟩ : ByteArray), ([⟨1, 0, ⟨#[]⟩, 0⟩, ⟨9, 0, ⟨#[]⟩, 10⟩] : Al), (0 : Int)) = some (r1, r2, r3, r4) from h)
        simp only [Prod.mk.injEq] at hX
        obtain ⟨rfl, rfl, rfl, rfl⟩ := hX
        clear h
        go_wp2_with (first | (go_at_call 54; refine (actR_in 1 _).mono ?_; rintro e W3 ⟨rfl, hB1⟩; replace k3 := Aside0.mk (blk_below k3.out hB1); replace k5 := Aside0.mk (blk_below k5.out hB1); replace k6 := Aside0.mk (blk_below k6.out hB1); replace hB := Aside0.mk (below_then hB.out hB.out.size hB1); clear hB1; clear e30 e31 e50 e51 e52 e60 e61 f60 f61; have e30 : W3.cell? ⟨b3, 0, none⟩ = some (.int .i64 0) := (blk_cell k3.out 0).trans rfl; have e31 : W3.cell? ⟨b3, 1, none⟩ = some (.string d) := (blk_cell k3.out 1).trans rfl; have e50 : W3.cell? ⟨b5, 0, none⟩ = some (.int .i64 1) := (blk_cell k5.out 0).trans rfl; have e51 : W3.cell? ⟨b5, 1, none⟩ = some (.int .i64 ec) := (blk_cell k5.out 1).trans rfl; have e52 : W3.cell? ⟨b5, 2, none⟩ = some (.int .u8 ed) := (blk_cell k5.out 2).trans rfl; have e60 : W3.cell? ⟨b6, 0, none⟩ = some (.int .i64 0) := (blk_cell k6.out 0).trans rfl; have e61 : W3.cell? ⟨b6, 1, none⟩ = some (.string ⟨#[]⟩) := (blk_cell k6.out 1).trans rfl; have f60 : W3.frozen? ⟨b6, 0, none⟩ = false := blk_frozen k6.out 0; have f61 : W3.frozen? ⟨b6, 1, none⟩ = false := blk_frozen k6.out 1) | (go_at_call 55; refine (timerR_in _).mono ?_; rintro e W4 ⟨rfl, hB1⟩; replace k3 := Aside0.mk (blk_below k3.out hB1); replace k5 := Aside0.mk (blk_below k5.out hB1); replace k6 := Aside0.mk (blk_below k6.out hB1); replace hB := Aside0.mk (below_then hB.out hB.out.size hB1); clear hB1; clear e30 e31 e50 e51 e52 e60 e61 f60 f61; have e30 : W4.cell? ⟨b3, 0, none⟩ = some (.int .i64 0) := (blk_cell k3.out 0).trans rfl; have e31 : W4.cell? ⟨b3, 1, none⟩ = some (.string d) := (blk_cell k3.out 1).trans rfl; have e50 : W4.cell? ⟨b5, 0, none⟩ = some (.int .i64 1) := (blk_cell k5.out 0).trans rfl; have e51 : W4.cell? ⟨b5, 1, none⟩ = some (.int .i64 ec) := (blk_cell k5.out 1).trans rfl; have e52 : W4.cell? ⟨b5, 2, none⟩ = some (.int .u8 ed) := (blk_cell k5.out 2).trans rfl; have e60 : W4.cell? ⟨b6, 0, none⟩ = some (.int .i64 0) := (blk_cell k6.out 0).trans rfl; have e61 : W4.cell? ⟨b6, 1, none⟩ = some (.string ⟨#[]⟩) := (blk_cell k6.out 1).trans rfl; have f60 : W4.frozen? ⟨b6, 0, none⟩ = false := blk_frozen k6.out 0; have f61 : W4.frozen? ⟨b6, 1, none⟩ = false := blk_frozen k6.out 1) | ((with_reducible refine gate_dst (N := 62) rfl ?_); refine Kd.R_lit k62 _ 62 ?hg (N := 62) ?hd (xs := ([⟨1, 0, ⟨#[]⟩, 0⟩, ⟨9, 0, ⟨#[]⟩, 10⟩] : Al)) (inner := [.int .i64 1, .int .i64 0, .string ⟨#[]⟩, .int .i64 0, .int .i64 9, .int .i64 0, .string ⟨#[]⟩, .int .i64 10]) (ok := fun _ => True) (okp := fun _ => True) ?hr ?hp (fun _ hk => hk) trivial (Below.refl _ _) (Nat.le_refl _) (by simp) ?_; (case hd => rfl); (case hg => rfl); (case hr => first | (go_simp; done) | (go_simp; rfl)); (case hp => exact (Reps.c4 (show Kd.M k62 _ _ _ (⟨1, 0, ⟨#[]⟩, 0⟩ : S62) [.int .i64 1, .int .i64 0, .string ⟨#[]⟩, .int .i64 0] from k62_mkM _ _ _ _) (Reps.c4 (show Kd.M k62 _ _ _ (⟨9, 0, ⟨#[]⟩, 10⟩ : S62) [.int .i64 9, .int .i64 0, .string ⟨#[]⟩, .int .i64 10] from k62_mkM _ _ _ _) (Reps.none _ _)))); intro vL W5 hoL hB1 hg_ hnew_; clear hg_ hnew_; obtain ⟨AL, LL, cL, hvL⟩ := R_shape hoL; subst hvL; have hR := Aside0.mk (Kd.R_lower hoL (below_size hB.out)); clear hoL; replace k3 := Aside0.mk (blk_below k3.out hB1); replace k5 := Aside0.mk (blk_below k5.out hB1); replace k6 := Aside0.mk (blk_below k6.out hB1); replace hB := Aside0.mk (below_then hB.out hB.out.size hB1); clear hB1; clear e30 e31 e50 e51 e52 e60 e61 f60 f61; have e30 : W5.cell? ⟨b3, 0, none⟩ = some (.int .i64 0) := (blk_cell k3.out 0).trans rfl; have e31 : W5.cell? ⟨b3, 1, none⟩ = some (.string d) := (blk_cell k3.out 1).trans rfl; have e50 : W5.cell? ⟨b5, 0, none⟩ = some (.int .i64 1) := (blk_cell k5.out 0).trans rfl; have e51 : W5.cell? ⟨b5, 1, none⟩ = some (.int .i64 ec) := (blk_cell k5.out 1).trans rfl; have e52 : W5.cell? ⟨b5, 2, none⟩ = some (.int .u8 ed) := (blk_cell k5.out 2).trans rfl; have e60 : W5.cell? ⟨b6, 0, none⟩ = some (.int .i64 0) := (blk_cell k6.out 0).trans rfl; have e61 : W5.cell? ⟨b6, 1, none⟩ = some (.string ⟨#[]⟩) := (blk_cell k6.out 1).trans rfl; have f60 : W5.frozen? ⟨b6, 0, none⟩ = false := blk_frozen k6.out 0; have f61 : W5.frozen? ⟨b6, 1, none⟩ = false := blk_frozen k6.out 1))
        exact refS_end (blk_put (blk_put k6.out 0 (.int .i64 1) rfl) 1 (.string ⟨#[]⟩) rfl) rfl rfl rfl rfl ⟨_, rfl, Kd.R_set (Kd.R_set hR.out k6.out (by decide) 0 _) (blk_put k6.out 0 (.int .i64 1) rfl) (by decide) 1 _, below_set (below_set hB.out g6.out) g6.out⟩
      rw [show refT 0 d ek ec = (0, ⟨#[]⟩, [], 160) by unfold refT; simp [e3, e1]] at h
      simp only [Option.some.injEq, Prod.mk.injEq] at h
      obtain ⟨rfl, rfl, rfl, rfl⟩ := h
      have d3 : (ek == 3) = false := beq_eq_false_iff_ne.2 e3
      have d1 : (ek == 1) = false := beq_eq_false_iff_ne.2 e1
      clear e3 e1
      go_wp2
      exact refS_end (blk_put (blk_put k6.out 0 (.int .i64 0) rfl) 1 (.string ⟨#[]⟩) rfl) rfl rfl rfl rfl ⟨_, rfl, Kd.R_nil _ _ _ _ _, below_set (below_set hB.out g6.out) g6.out⟩
    · by_cases e3 : ek = 3
      · subst e3
        have hX := Option.some.inj (show some ((2 : Int), d, ([] : Al), (0 : Int)) = some (r1, r2, r3, r4) from h)
        simp only [Prod.mk.injEq] at hX
        obtain ⟨rfl, rfl, rfl, rfl⟩ := hX
        clear h
        go_wp2
        exact refS_end (blk_put (blk_put k6.out 0 (.int .i64 2) rfl) 1 (.string d) rfl) rfl rfl rfl rfl ⟨_, rfl, Kd.R_nil _ _ _ _ _, below_set (below_set hB.out g6.out) g6.out⟩
      by_cases e6 : ek = 6
      · subst e6
        have hX := Option.some.inj (show some ((2 : Int), d, ([] : Al), (0 : Int)) = some (r1, r2, r3, r4) from h)
        simp only [Prod.mk.injEq] at hX
        obtain ⟨rfl, rfl, rfl, rfl⟩ := hX
        clear h
        go_wp2
        exact refS_end (blk_put (blk_put k6.out 0 (.int .i64 2) rfl) 1 (.string d) rfl) rfl rfl rfl rfl ⟨_, rfl, Kd.R_nil _ _ _ _ _, below_set (below_set hB.out g6.out) g6.out⟩
      by_cases e7 : ek = 7
      · subst e7
        have hX := Option.some.inj (show some ((3 : Int), (⟨#[]⟩ : ByteArray), ([⟨4, 0, ⟨#[]⟩, 0⟩] : Al), (0 : Int)) = some (r1, r2, r3, r4) from h)
        simp only [Prod.mk.injEq] at hX
        obtain ⟨rfl, rfl, rfl, rfl⟩ := hX
        clear h
        go_wp2_with (first | (go_at_call 54; refine (actR_in 4 _).mono ?_; rintro e W3 ⟨rfl, hB1⟩; replace k3 := Aside0.mk (blk_below k3.out hB1); replace k5 := Aside0.mk (blk_below k5.out hB1); replace k6 := Aside0.mk (blk_below k6.out hB1); replace hB := Aside0.mk (below_then hB.out hB.out.size hB1); clear hB1; clear e30 e31 e50 e51 e52 e60 e61 f60 f61; have e30 : W3.cell? ⟨b3, 0, none⟩ = some (.int .i64 2) := (blk_cell k3.out 0).trans rfl; have e31 : W3.cell? ⟨b3, 1, none⟩ = some (.string d) := (blk_cell k3.out 1).trans rfl; have e50 : W3.cell? ⟨b5, 0, none⟩ = some (.int .i64 7) := (blk_cell k5.out 0).trans rfl; have e51 : W3.cell? ⟨b5, 1, none⟩ = some (.int .i64 ec) := (blk_cell k5.out 1).trans rfl; have e52 : W3.cell? ⟨b5, 2, none⟩ = some (.int .u8 ed) := (blk_cell k5.out 2).trans rfl; have e60 : W3.cell? ⟨b6, 0, none⟩ = some (.int .i64 0) := (blk_cell k6.out 0).trans rfl; have e61 : W3.cell? ⟨b6, 1, none⟩ = some (.string ⟨#[]⟩) := (blk_cell k6.out 1).trans rfl; have f60 : W3.frozen? ⟨b6, 0, none⟩ = false := blk_frozen k6.out 0; have f61 : W3.frozen? ⟨b6, 1, none⟩ = false := blk_frozen k6.out 1) | ((with_reducible refine gate_dst (N := 84) rfl ?_); refine Kd.R_lit k62 _ 62 ?hg (N := 84) ?hd (xs := ([⟨4, 0, ⟨#[]⟩, 0⟩] : Al)) (inner := [.int .i64 4, .int .i64 0, .string ⟨#[]⟩, .int .i64 0]) (ok := fun _ => True) (okp := fun _ => True) ?hr ?hp (fun _ hk => hk) trivial (Below.refl _ _) (Nat.le_refl _) (by simp) ?_; (case hd => rfl); (case hg => rfl); (case hr => first | (go_simp; done) | (go_simp; rfl)); (case hp => exact (Reps.c4 (show Kd.M k62 _ _ _ (⟨4, 0, ⟨#[]⟩, 0⟩ : S62) [.int .i64 4, .int .i64 0, .string ⟨#[]⟩, .int .i64 0] from k62_mkM _ _ _ _) (Reps.none _ _))); intro vL W4 hoL hB1 hg_ hnew_; clear hg_ hnew_; obtain ⟨AL, LL, cL, hvL⟩ := R_shape hoL; subst hvL; have hR := Aside0.mk (Kd.R_lower hoL (below_size hB.out)); clear hoL; replace k3 := Aside0.mk (blk_below k3.out hB1); replace k5 := Aside0.mk (blk_below k5.out hB1); replace k6 := Aside0.mk (blk_below k6.out hB1); replace hB := Aside0.mk (below_then hB.out hB.out.size hB1); clear hB1; clear e30 e31 e50 e51 e52 e60 e61 f60 f61; have e30 : W4.cell? ⟨b3, 0, none⟩ = some (.int .i64 2) := (blk_cell k3.out 0).trans rfl; have e31 : W4.cell? ⟨b3, 1, none⟩ = some (.string d) := (blk_cell k3.out 1).trans rfl; have e50 : W4.cell? ⟨b5, 0, none⟩ = some (.int .i64 7) := (blk_cell k5.out 0).trans rfl; have e51 : W4.cell? ⟨b5, 1, none⟩ = some (.int .i64 ec) := (blk_cell k5.out 1).trans rfl; have e52 : W4.cell? ⟨b5, 2, none⟩ = some (.int .u8 ed) := (blk_cell k5.out 2).trans rfl; have e60 : W4.cell? ⟨b6, 0, none⟩ = some (.int .i64 0) := (blk_cell k6.out 0).trans rfl; have e61 : W4.cell? ⟨b6, 1, none⟩ = some (.string ⟨#[]⟩) := (blk_cell k6.out 1).trans rfl; have f60 : W4.frozen? ⟨b6, 0, none⟩ = false := blk_frozen k6.out 0; have f61 : W4.frozen? ⟨b6, 1, none⟩ = false := blk_frozen k6.out 1))
        exact refS_end (blk_put (blk_put k6.out 0 (.int .i64 3) rfl) 1 (.string ⟨#[]⟩) rfl) rfl rfl rfl rfl ⟨_, rfl, Kd.R_set (Kd.R_set hR.out k6.out (by decide) 0 _) (blk_put k6.out 0 (.int .i64 3) rfl) (by decide) 1 _, below_set (below_set hB.out g6.out) g6.out⟩
      by_cases e8 : ek = 8
      · subst e8
        have hX := Option.some.inj (show some ((4 : Int), (⟨#[]⟩ : ByteArray), ([⟨2, 0, ⟨#[]⟩, 0⟩, ⟨8, 0, ⟨#[]⟩, 0⟩] : Al), (0 : Int)) = some (r1, r2, r3, r4) from h)
        simp only [Prod.mk.injEq] at hX
        obtain ⟨rfl, rfl, rfl, rfl⟩ := hX
        clear h
        go_wp2_with (first | (go_at_call 54; refine (actR_in 2 _).mono ?_; rintro e W3 ⟨rfl, hB1⟩; replace k3 := Aside0.mk (blk_below k3.out hB1); replace k5 := Aside0.mk (blk_below k5.out hB1); replace k6 := Aside0.mk (blk_below k6.out hB1); replace hB := Aside0.mk (below_then hB.out hB.out.size hB1); clear hB1; clear e30 e31 e50 e51 e52 e60 e61 f60 f61; have e30 : W3.cell? ⟨b3, 0, none⟩ = some (.int .i64 2) := (blk_cell k3.out 0).trans rfl; have e31 : W3.cell? ⟨b3, 1, none⟩ = some (.string d) := (blk_cell k3.out 1).trans rfl; have e50 : W3.cell? ⟨b5, 0, none⟩ = some (.int .i64 8) := (blk_cell k5.out 0).trans rfl; have e51 : W3.cell? ⟨b5, 1, none⟩ = some (.int .i64 ec) := (blk_cell k5.out 1).trans rfl; have e52 : W3.cell? ⟨b5, 2, none⟩ = some (.int .u8 ed) := (blk_cell k5.out 2).trans rfl; have e60 : W3.cell? ⟨b6, 0, none⟩ = some (.int .i64 0) := (blk_cell k6.out 0).trans rfl; have e61 : W3.cell? ⟨b6, 1, none⟩ = some (.string ⟨#[]⟩) := (blk_cell k6.out 1).trans rfl; have f60 : W3.frozen? ⟨b6, 0, none⟩ = false := blk_frozen k6.out 0; have f61 : W3.frozen? ⟨b6, 1, none⟩ = false := blk_frozen k6.out 1) | (go_at_call 54; refine (actR_in 8 _).mono ?_; rintro e W4 ⟨rfl, hB1⟩; replace k3 := Aside0.mk (blk_below k3.out hB1); replace k5 := Aside0.mk (blk_below k5.out hB1); replace k6 := Aside0.mk (blk_below k6.out hB1); replace hB := Aside0.mk (below_then hB.out hB.out.size hB1); clear hB1; clear e30 e31 e50 e51 e52 e60 e61 f60 f61; have e30 : W4.cell? ⟨b3, 0, none⟩ = some (.int .i64 2) := (blk_cell k3.out 0).trans rfl; have e31 : W4.cell? ⟨b3, 1, none⟩ = some (.string d) := (blk_cell k3.out 1).trans rfl; have e50 : W4.cell? ⟨b5, 0, none⟩ = some (.int .i64 8) := (blk_cell k5.out 0).trans rfl; have e51 : W4.cell? ⟨b5, 1, none⟩ = some (.int .i64 ec) := (blk_cell k5.out 1).trans rfl; have e52 : W4.cell? ⟨b5, 2, none⟩ = some (.int .u8 ed) := (blk_cell k5.out 2).trans rfl; have e60 : W4.cell? ⟨b6, 0, none⟩ = some (.int .i64 0) := (blk_cell k6.out 0).trans rfl; have e61 : W4.cell? ⟨b6, 1, none⟩ = some (.string ⟨#[]⟩) := (blk_cell k6.out 1).trans rfl; have f60 : W4.frozen? ⟨b6, 0, none⟩ = false := blk_frozen k6.out 0; have f61 : W4.frozen? ⟨b6, 1, none⟩ = false := blk_frozen k6.out 1) | ((with_reducible refine gate_dst (N := 100) rfl ?_); refine Kd.R_lit k62 _ 62 ?hg (N := 100) ?hd (xs := ([⟨2, 0, ⟨#[]⟩, 0⟩, ⟨8, 0, ⟨#[]⟩, 0⟩] : Al)) (inner := [.int .i64 2, .int .i64 0, .string ⟨#[]⟩, .int .i64 0, .int .i64 8, .int .i64 0, .string ⟨#[]⟩, .int .i64 0]) (ok := fun _ => True) (okp := fun _ => True) ?hr ?hp (fun _ hk => hk) trivial (Below.refl _ _) (Nat.le_refl _) (by simp) ?_; (case hd => rfl); (case hg => rfl); (case hr => first | (go_simp; done) | (go_simp; rfl)); (case hp => exact (Reps.c4 (show Kd.M k62 _ _ _ (⟨2, 0, ⟨#[]⟩, 0⟩ : S62) [.int .i64 2, .int .i64 0, .string ⟨#[]⟩, .int .i64 0] from k62_mkM _ _ _ _) (Reps.c4 (show Kd.M k62 _ _ _ (⟨8, 0, ⟨#[]⟩, 0⟩ : S62) [.int .i64 8, .int .i64 0, .string ⟨#[]⟩, .int .i64 0] from k62_mkM _ _ _ _) (Reps.none _ _)))); intro vL W5 hoL hB1 hg_ hnew_; clear hg_ hnew_; obtain ⟨AL, LL, cL, hvL⟩ := R_shape hoL; subst hvL; have hR := Aside0.mk (Kd.R_lower hoL (below_size hB.out)); clear hoL; replace k3 := Aside0.mk (blk_below k3.out hB1); replace k5 := Aside0.mk (blk_below k5.out hB1); replace k6 := Aside0.mk (blk_below k6.out hB1); replace hB := Aside0.mk (below_then hB.out hB.out.size hB1); clear hB1; clear e30 e31 e50 e51 e52 e60 e61 f60 f61; have e30 : W5.cell? ⟨b3, 0, none⟩ = some (.int .i64 2) := (blk_cell k3.out 0).trans rfl; have e31 : W5.cell? ⟨b3, 1, none⟩ = some (.string d) := (blk_cell k3.out 1).trans rfl; have e50 : W5.cell? ⟨b5, 0, none⟩ = some (.int .i64 8) := (blk_cell k5.out 0).trans rfl; have e51 : W5.cell? ⟨b5, 1, none⟩ = some (.int .i64 ec) := (blk_cell k5.out 1).trans rfl; have e52 : W5.cell? ⟨b5, 2, none⟩ = some (.int .u8 ed) := (blk_cell k5.out 2).trans rfl; have e60 : W5.cell? ⟨b6, 0, none⟩ = some (.int .i64 0) := (blk_cell k6.out 0).trans rfl; have e61 : W5.cell? ⟨b6, 1, none⟩ = some (.string ⟨#[]⟩) := (blk_cell k6.out 1).trans rfl; have f60 : W5.frozen? ⟨b6, 0, none⟩ = false := blk_frozen k6.out 0; have f61 : W5.frozen? ⟨b6, 1, none⟩ = false := blk_frozen k6.out 1))
        exact refS_end (blk_put (blk_put k6.out 0 (.int .i64 4) rfl) 1 (.string ⟨#[]⟩) rfl) rfl rfl rfl rfl ⟨_, rfl, Kd.R_set (Kd.R_set hR.out k6.out (by decide) 0 _) (blk_put k6.out 0 (.int .i64 4) rfl) (by decide) 1 _, below_set (below_set hB.out g6.out) g6.out⟩
      by_cases e9 : ek = 9
      · subst e9
        have hX := Option.some.inj (show some ((5 : Int), (⟨#[]⟩ : ByteArray), ([⟨3, ec, ⟨#[]⟩, 0⟩] : Al), (0 : Int)) = some (r1, r2, r3, r4) from h)
        simp only [Prod.mk.injEq] at hX
        obtain ⟨rfl, rfl, rfl, rfl⟩ := hX
        clear h
        go_wp2_with (first | (go_at_call 56; refine (toneR_in ec _).mono ?_; rintro e W3 ⟨rfl, hB1⟩; replace k3 := Aside0.mk (blk_below k3.out hB1); replace k5 := Aside0.mk (blk_below k5.out hB1); replace k6 := Aside0.mk (blk_below k6.out hB1); replace hB := Aside0.mk (below_then hB.out hB.out.size hB1); clear hB1; clear e30 e31 e50 e51 e52 e60 e61 f60 f61; have e30 : W3.cell? ⟨b3, 0, none⟩ = some (.int .i64 2) := (blk_cell k3.out 0).trans rfl; have e31 : W3.cell? ⟨b3, 1, none⟩ = some (.string d) := (blk_cell k3.out 1).trans rfl; have e50 : W3.cell? ⟨b5, 0, none⟩ = some (.int .i64 9) := (blk_cell k5.out 0).trans rfl; have e51 : W3.cell? ⟨b5, 1, none⟩ = some (.int .i64 ec) := (blk_cell k5.out 1).trans rfl; have e52 : W3.cell? ⟨b5, 2, none⟩ = some (.int .u8 ed) := (blk_cell k5.out 2).trans rfl; have e60 : W3.cell? ⟨b6, 0, none⟩ = some (.int .i64 0) := (blk_cell k6.out 0).trans rfl; have e61 : W3.cell? ⟨b6, 1, none⟩ = some (.string ⟨#[]⟩) := (blk_cell k6.out 1).trans rfl; have f60 : W3.frozen? ⟨b6, 0, none⟩ = false := blk_frozen k6.out 0; have f61 : W3.frozen? ⟨b6, 1, none⟩ = false := blk_frozen k6.out 1) | ((with_reducible refine gate_dst (N := 112) rfl ?_); refine Kd.R_lit k62 _ 62 ?hg (N := 112) ?hd (xs := ([⟨3, ec, ⟨#[]⟩, 0⟩] : Al)) (inner := [.int .i64 3, .int .i64 ec, .string ⟨#[]⟩, .int .i64 0]) (ok := fun _ => True) (okp := fun _ => True) ?hr ?hp (fun _ hk => hk) trivial (Below.refl _ _) (Nat.le_refl _) (by simp) ?_; (case hd => rfl); (case hg => rfl); (case hr => first | (go_simp; done) | (go_simp; rfl)); (case hp => exact (Reps.c4 (show Kd.M k62 _ _ _ (⟨3, ec, ⟨#[]⟩, 0⟩ : S62) [.int .i64 3, .int .i64 ec, .string ⟨#[]⟩, .int .i64 0] from k62_mkM _ _ _ _) (Reps.none _ _))); intro vL W4 hoL hB1 hg_ hnew_; clear hg_ hnew_; obtain ⟨AL, LL, cL, hvL⟩ := R_shape hoL; subst hvL; have hR := Aside0.mk (Kd.R_lower hoL (below_size hB.out)); clear hoL; replace k3 := Aside0.mk (blk_below k3.out hB1); replace k5 := Aside0.mk (blk_below k5.out hB1); replace k6 := Aside0.mk (blk_below k6.out hB1); replace hB := Aside0.mk (below_then hB.out hB.out.size hB1); clear hB1; clear e30 e31 e50 e51 e52 e60 e61 f60 f61; have e30 : W4.cell? ⟨b3, 0, none⟩ = some (.int .i64 2) := (blk_cell k3.out 0).trans rfl; have e31 : W4.cell? ⟨b3, 1, none⟩ = some (.string d) := (blk_cell k3.out 1).trans rfl; have e50 : W4.cell? ⟨b5, 0, none⟩ = some (.int .i64 9) := (blk_cell k5.out 0).trans rfl; have e51 : W4.cell? ⟨b5, 1, none⟩ = some (.int .i64 ec) := (blk_cell k5.out 1).trans rfl; have e52 : W4.cell? ⟨b5, 2, none⟩ = some (.int .u8 ed) := (blk_cell k5.out 2).trans rfl; have e60 : W4.cell? ⟨b6, 0, none⟩ = some (.int .i64 0) := (blk_cell k6.out 0).trans rfl; have e61 : W4.cell? ⟨b6, 1, none⟩ = some (.string ⟨#[]⟩) := (blk_cell k6.out 1).trans rfl; have f60 : W4.frozen? ⟨b6, 0, none⟩ = false := blk_frozen k6.out 0; have f61 : W4.frozen? ⟨b6, 1, none⟩ = false := blk_frozen k6.out 1))
        exact refS_end (blk_put (blk_put k6.out 0 (.int .i64 5) rfl) 1 (.string ⟨#[]⟩) rfl) rfl rfl rfl rfl ⟨_, rfl, Kd.R_set (Kd.R_set hR.out k6.out (by decide) 0 _) (blk_put k6.out 0 (.int .i64 5) rfl) (by decide) 1 _, below_set (below_set hB.out g6.out) g6.out⟩
      by_cases e2 : ek = 2
      · subst e2
        have hX := Option.some.inj (show some ((0 : Int), (⟨#[]⟩ : ByteArray), ([⟨2, 0, ⟨#[]⟩, 0⟩, ⟨7, 16, ⟨#[]⟩, 0⟩] : Al), (0 : Int)) = some (r1, r2, r3, r4) from h)
        simp only [Prod.mk.injEq] at hX
        obtain ⟨rfl, rfl, rfl, rfl⟩ := hX
        clear h
        go_wp2_with (first | (go_at_call 54; refine (actR_in 2 _).mono ?_; rintro e W3 ⟨rfl, hB1⟩; replace k3 := Aside0.mk (blk_below k3.out hB1); replace k5 := Aside0.mk (blk_below k5.out hB1); replace k6 := Aside0.mk (blk_below k6.out hB1); replace hB := Aside0.mk (below_then hB.out hB.out.size hB1); clear hB1; clear e30 e31 e50 e51 e52 e60 e61 f60 f61; have e30 : W3.cell? ⟨b3, 0, none⟩ = some (.int .i64 2) := (blk_cell k3.out 0).trans rfl; have e31 : W3.cell? ⟨b3, 1, none⟩ = some (.string d) := (blk_cell k3.out 1).trans rfl; have e50 : W3.cell? ⟨b5, 0, none⟩ = some (.int .i64 2) := (blk_cell k5.out 0).trans rfl; have e51 : W3.cell? ⟨b5, 1, none⟩ = some (.int .i64 ec) := (blk_cell k5.out 1).trans rfl; have e52 : W3.cell? ⟨b5, 2, none⟩ = some (.int .u8 ed) := (blk_cell k5.out 2).trans rfl; have e60 : W3.cell? ⟨b6, 0, none⟩ = some (.int .i64 0) := (blk_cell k6.out 0).trans rfl; have e61 : W3.cell? ⟨b6, 1, none⟩ = some (.string ⟨#[]⟩) := (blk_cell k6.out 1).trans rfl; have f60 : W3.frozen? ⟨b6, 0, none⟩ = false := blk_frozen k6.out 0; have f61 : W3.frozen? ⟨b6, 1, none⟩ = false := blk_frozen k6.out 1) | ((with_reducible refine gate_dst (N := 123) rfl ?_); refine Kd.R_lit k62 _ 62 ?hg (N := 123) ?hd (xs := ([⟨2, 0, ⟨#[]⟩, 0⟩, ⟨7, 16, ⟨#[]⟩, 0⟩] : Al)) (inner := [.int .i64 2, .int .i64 0, .string ⟨#[]⟩, .int .i64 0, .int .i64 7, .int .i64 16, .string ⟨#[]⟩, .int .i64 0]) (ok := fun _ => True) (okp := fun _ => True) ?hr ?hp (fun _ hk => hk) trivial (Below.refl _ _) (Nat.le_refl _) (by simp) ?_; (case hd => rfl); (case hg => rfl); (case hr => first | (go_simp; done) | (go_simp; rfl)); (case hp => exact (Reps.c4 (show Kd.M k62 _ _ _ (⟨2, 0, ⟨#[]⟩, 0⟩ : S62) [.int .i64 2, .int .i64 0, .string ⟨#[]⟩, .int .i64 0] from k62_mkM _ _ _ _) (Reps.c4 (show Kd.M k62 _ _ _ (⟨7, 16, ⟨#[]⟩, 0⟩ : S62) [.int .i64 7, .int .i64 16, .string ⟨#[]⟩, .int .i64 0] from k62_mkM _ _ _ _) (Reps.none _ _)))); intro vL W4 hoL hB1 hg_ hnew_; clear hg_ hnew_; obtain ⟨AL, LL, cL, hvL⟩ := R_shape hoL; subst hvL; have hR := Aside0.mk (Kd.R_lower hoL (below_size hB.out)); clear hoL; replace k3 := Aside0.mk (blk_below k3.out hB1); replace k5 := Aside0.mk (blk_below k5.out hB1); replace k6 := Aside0.mk (blk_below k6.out hB1); replace hB := Aside0.mk (below_then hB.out hB.out.size hB1); clear hB1; clear e30 e31 e50 e51 e52 e60 e61 f60 f61; have e30 : W4.cell? ⟨b3, 0, none⟩ = some (.int .i64 2) := (blk_cell k3.out 0).trans rfl; have e31 : W4.cell? ⟨b3, 1, none⟩ = some (.string d) := (blk_cell k3.out 1).trans rfl; have e50 : W4.cell? ⟨b5, 0, none⟩ = some (.int .i64 2) := (blk_cell k5.out 0).trans rfl; have e51 : W4.cell? ⟨b5, 1, none⟩ = some (.int .i64 ec) := (blk_cell k5.out 1).trans rfl; have e52 : W4.cell? ⟨b5, 2, none⟩ = some (.int .u8 ed) := (blk_cell k5.out 2).trans rfl; have e60 : W4.cell? ⟨b6, 0, none⟩ = some (.int .i64 0) := (blk_cell k6.out 0).trans rfl; have e61 : W4.cell? ⟨b6, 1, none⟩ = some (.string ⟨#[]⟩) := (blk_cell k6.out 1).trans rfl; have f60 : W4.frozen? ⟨b6, 0, none⟩ = false := blk_frozen k6.out 0; have f61 : W4.frozen? ⟨b6, 1, none⟩ = false := blk_frozen k6.out 1))
        exact refS_end (blk_put (blk_put k6.out 0 (.int .i64 0) rfl) 1 (.string ⟨#[]⟩) rfl) rfl rfl rfl rfl ⟨_, rfl, Kd.R_set (Kd.R_set hR.out k6.out (by decide) 0 _) (blk_put k6.out 0 (.int .i64 0) rfl) (by decide) 1 _, below_set (below_set hB.out g6.out) g6.out⟩
      rw [show refT 2 d ek ec = (0, ⟨#[]⟩, [], 160) by unfold refT; simp [e3, e6, e7, e8, e9, e2]] at h
      simp only [Option.some.injEq, Prod.mk.injEq] at h
      obtain ⟨rfl, rfl, rfl, rfl⟩ := h
      have d3 : (ek == 3) = false := beq_eq_false_iff_ne.2 e3
      have d6 : (ek == 6) = false := beq_eq_false_iff_ne.2 e6
      have d7 : (ek == 7) = false := beq_eq_false_iff_ne.2 e7
      have d8 : (ek == 8) = false := beq_eq_false_iff_ne.2 e8
      have d9 : (ek == 9) = false := beq_eq_false_iff_ne.2 e9
      have d2 : (ek == 2) = false := beq_eq_false_iff_ne.2 e2
      clear e3 e6 e7 e8 e9 e2
      go_wp2
      exact refS_end (blk_put (blk_put k6.out 0 (.int .i64 0) rfl) 1 (.string ⟨#[]⟩) rfl) rfl rfl rfl rfl ⟨_, rfl, Kd.R_nil _ _ _ _ _, below_set (below_set hB.out g6.out) g6.out⟩
    · by_cases e3 : ek = 3
      · subst e3
        have hX := Option.some.inj (show some ((3 : Int), d, ([] : Al), (0 : Int)) = some (r1, r2, r3, r4) from h)
        simp only [Prod.mk.injEq] at hX
        obtain ⟨rfl, rfl, rfl, rfl⟩ := hX
        clear h
        go_wp2
        exact refS_end (blk_put (blk_put k6.out 0 (.int .i64 3) rfl) 1 (.string d) rfl) rfl rfl rfl rfl ⟨_, rfl, Kd.R_nil _ _ _ _ _, below_set (below_set hB.out g6.out) g6.out⟩
      by_cases e8 : ek = 8
      · subst e8
        have hX := Option.some.inj (show some ((4 : Int), (⟨#[]⟩ : ByteArray), ([⟨2, 0, ⟨#[]⟩, 0⟩, ⟨8, 0, ⟨#[]⟩, 0⟩] : Al), (0 : Int)) = some (r1, r2, r3, r4) from h)
        simp only [Prod.mk.injEq] at hX
        obtain ⟨rfl, rfl, rfl, rfl⟩ := hX
        clear h
        go_wp2_with (first | (go_at_call 54; refine (actR_in 2 _).mono ?_; rintro e W3 ⟨rfl, hB1⟩; replace k3 := Aside0.mk (blk_below k3.out hB1); replace k5 := Aside0.mk (blk_below k5.out hB1); replace k6 := Aside0.mk (blk_below k6.out hB1); replace hB := Aside0.mk (below_then hB.out hB.out.size hB1); clear hB1; clear e30 e31 e50 e51 e52 e60 e61 f60 f61; have e30 : W3.cell? ⟨b3, 0, none⟩ = some (.int .i64 3) := (blk_cell k3.out 0).trans rfl; have e31 : W3.cell? ⟨b3, 1, none⟩ = some (.string d) := (blk_cell k3.out 1).trans rfl; have e50 : W3.cell? ⟨b5, 0, none⟩ = some (.int .i64 8) := (blk_cell k5.out 0).trans rfl; have e51 : W3.cell? ⟨b5, 1, none⟩ = some (.int .i64 ec) := (blk_cell k5.out 1).trans rfl; have e52 : W3.cell? ⟨b5, 2, none⟩ = some (.int .u8 ed) := (blk_cell k5.out 2).trans rfl; have e60 : W3.cell? ⟨b6, 0, none⟩ = some (.int .i64 0) := (blk_cell k6.out 0).trans rfl; have e61 : W3.cell? ⟨b6, 1, none⟩ = some (.string ⟨#[]⟩) := (blk_cell k6.out 1).trans rfl; have f60 : W3.frozen? ⟨b6, 0, none⟩ = false := blk_frozen k6.out 0; have f61 : W3.frozen? ⟨b6, 1, none⟩ = false := blk_frozen k6.out 1) | (go_at_call 54; refine (actR_in 8 _).mono ?_; rintro e W4 ⟨rfl, hB1⟩; replace k3 := Aside0.mk (blk_below k3.out hB1); replace k5 := Aside0.mk (blk_below k5.out hB1); replace k6 := Aside0.mk (blk_below k6.out hB1); replace hB := Aside0.mk (below_then hB.out hB.out.size hB1); clear hB1; clear e30 e31 e50 e51 e52 e60 e61 f60 f61; have e30 : W4.cell? ⟨b3, 0, none⟩ = some (.int .i64 3) := (blk_cell k3.out 0).trans rfl; have e31 : W4.cell? ⟨b3, 1, none⟩ = some (.string d) := (blk_cell k3.out 1).trans rfl; have e50 : W4.cell? ⟨b5, 0, none⟩ = some (.int .i64 8) := (blk_cell k5.out 0).trans rfl; have e51 : W4.cell? ⟨b5, 1, none⟩ = some (.int .i64 ec) := (blk_cell k5.out 1).trans rfl; have e52 : W4.cell? ⟨b5, 2, none⟩ = some (.int .u8 ed) := (blk_cell k5.out 2).trans rfl; have e60 : W4.cell? ⟨b6, 0, none⟩ = some (.int .i64 0) := (blk_cell k6.out 0).trans rfl; have e61 : W4.cell? ⟨b6, 1, none⟩ = some (.string ⟨#[]⟩) := (blk_cell k6.out 1).trans rfl; have f60 : W4.frozen? ⟨b6, 0, none⟩ = false := blk_frozen k6.out 0; have f61 : W4.frozen? ⟨b6, 1, none⟩ = false := blk_frozen k6.out 1) | ((with_reducible refine gate_dst (N := 100) rfl ?_); refine Kd.R_lit k62 _ 62 ?hg (N := 100) ?hd (xs := ([⟨2, 0, ⟨#[]⟩, 0⟩, ⟨8, 0, ⟨#[]⟩, 0⟩] : Al)) (inner := [.int .i64 2, .int .i64 0, .string ⟨#[]⟩, .int .i64 0, .int .i64 8, .int .i64 0, .string ⟨#[]⟩, .int .i64 0]) (ok := fun _ => True) (okp := fun _ => True) ?hr ?hp (fun _ hk => hk) trivial (Below.refl _ _) (Nat.le_refl _) (by simp) ?_; (case hd => rfl); (case hg => rfl); (case hr => first | (go_simp; done) | (go_simp; rfl)); (case hp => exact (Reps.c4 (show Kd.M k62 _ _ _ (⟨2, 0, ⟨#[]⟩, 0⟩ : S62) [.int .i64 2, .int .i64 0, .string ⟨#[]⟩, .int .i64 0] from k62_mkM _ _ _ _) (Reps.c4 (show Kd.M k62 _ _ _ (⟨8, 0, ⟨#[]⟩, 0⟩ : S62) [.int .i64 8, .int .i64 0, .string ⟨#[]⟩, .int .i64 0] from k62_mkM _ _ _ _) (Reps.none _ _)))); intro vL W5 hoL hB1 hg_ hnew_; clear hg_ hnew_; obtain ⟨AL, LL, cL, hvL⟩ := R_shape hoL; subst hvL; have hR := Aside0.mk (Kd.R_lower hoL (below_size hB.out)); clear hoL; replace k3 := Aside0.mk (blk_below k3.out hB1); replace k5 := Aside0.mk (blk_below k5.out hB1); replace k6 := Aside0.mk (blk_below k6.out hB1); replace hB := Aside0.mk (below_then hB.out hB.out.size hB1); clear hB1; clear e30 e31 e50 e51 e52 e60 e61 f60 f61; have e30 : W5.cell? ⟨b3, 0, none⟩ = some (.int .i64 3) := (blk_cell k3.out 0).trans rfl; have e31 : W5.cell? ⟨b3, 1, none⟩ = some (.string d) := (blk_cell k3.out 1).trans rfl; have e50 : W5.cell? ⟨b5, 0, none⟩ = some (.int .i64 8) := (blk_cell k5.out 0).trans rfl; have e51 : W5.cell? ⟨b5, 1, none⟩ = some (.int .i64 ec) := (blk_cell k5.out 1).trans rfl; have e52 : W5.cell? ⟨b5, 2, none⟩ = some (.int .u8 ed) := (blk_cell k5.out 2).trans rfl; have e60 : W5.cell? ⟨b6, 0, none⟩ = some (.int .i64 0) := (blk_cell k6.out 0).trans rfl; have e61 : W5.cell? ⟨b6, 1, none⟩ = some (.string ⟨#[]⟩) := (blk_cell k6.out 1).trans rfl; have f60 : W5.frozen? ⟨b6, 0, none⟩ = false := blk_frozen k6.out 0; have f61 : W5.frozen? ⟨b6, 1, none⟩ = false := blk_frozen k6.out 1))
        exact refS_end (blk_put (blk_put k6.out 0 (.int .i64 4) rfl) 1 (.string ⟨#[]⟩) rfl) rfl rfl rfl rfl ⟨_, rfl, Kd.R_set (Kd.R_set hR.out k6.out (by decide) 0 _) (blk_put k6.out 0 (.int .i64 4) rfl) (by decide) 1 _, below_set (below_set hB.out g6.out) g6.out⟩
      by_cases e9 : ek = 9
      · subst e9
        have hX := Option.some.inj (show some ((5 : Int), (⟨#[]⟩ : ByteArray), ([⟨3, ec, ⟨#[]⟩, 0⟩] : Al), (0 : Int)) = some (r1, r2, r3, r4) from h)
        simp only [Prod.mk.injEq] at hX
        obtain ⟨rfl, rfl, rfl, rfl⟩ := hX
        clear h
        go_wp2_with (first | (go_at_call 56; refine (toneR_in ec _).mono ?_; rintro e W3 ⟨rfl, hB1⟩; replace k3 := Aside0.mk (blk_below k3.out hB1); replace k5 := Aside0.mk (blk_below k5.out hB1); replace k6 := Aside0.mk (blk_below k6.out hB1); replace hB := Aside0.mk (below_then hB.out hB.out.size hB1); clear hB1; clear e30 e31 e50 e51 e52 e60 e61 f60 f61; have e30 : W3.cell? ⟨b3, 0, none⟩ = some (.int .i64 3) := (blk_cell k3.out 0).trans rfl; have e31 : W3.cell? ⟨b3, 1, none⟩ = some (.string d) := (blk_cell k3.out 1).trans rfl; have e50 : W3.cell? ⟨b5, 0, none⟩ = some (.int .i64 9) := (blk_cell k5.out 0).trans rfl; have e51 : W3.cell? ⟨b5, 1, none⟩ = some (.int .i64 ec) := (blk_cell k5.out 1).trans rfl; have e52 : W3.cell? ⟨b5, 2, none⟩ = some (.int .u8 ed) := (blk_cell k5.out 2).trans rfl; have e60 : W3.cell? ⟨b6, 0, none⟩ = some (.int .i64 0) := (blk_cell k6.out 0).trans rfl; have e61 : W3.cell? ⟨b6, 1, none⟩ = some (.string ⟨#[]⟩) := (blk_cell k6.out 1).trans rfl; have f60 : W3.frozen? ⟨b6, 0, none⟩ = false := blk_frozen k6.out 0; have f61 : W3.frozen? ⟨b6, 1, none⟩ = false := blk_frozen k6.out 1) | ((with_reducible refine gate_dst (N := 112) rfl ?_); refine Kd.R_lit k62 _ 62 ?hg (N := 112) ?hd (xs := ([⟨3, ec, ⟨#[]⟩, 0⟩] : Al)) (inner := [.int .i64 3, .int .i64 ec, .string ⟨#[]⟩, .int .i64 0]) (ok := fun _ => True) (okp := fun _ => True) ?hr ?hp (fun _ hk => hk) trivial (Below.refl _ _) (Nat.le_refl _) (by simp) ?_; (case hd => rfl); (case hg => rfl); (case hr => first | (go_simp; done) | (go_simp; rfl)); (case hp => exact (Reps.c4 (show Kd.M k62 _ _ _ (⟨3, ec, ⟨#[]⟩, 0⟩ : S62) [.int .i64 3, .int .i64 ec, .string ⟨#[]⟩, .int .i64 0] from k62_mkM _ _ _ _) (Reps.none _ _))); intro vL W4 hoL hB1 hg_ hnew_; clear hg_ hnew_; obtain ⟨AL, LL, cL, hvL⟩ := R_shape hoL; subst hvL; have hR := Aside0.mk (Kd.R_lower hoL (below_size hB.out)); clear hoL; replace k3 := Aside0.mk (blk_below k3.out hB1); replace k5 := Aside0.mk (blk_below k5.out hB1); replace k6 := Aside0.mk (blk_below k6.out hB1); replace hB := Aside0.mk (below_then hB.out hB.out.size hB1); clear hB1; clear e30 e31 e50 e51 e52 e60 e61 f60 f61; have e30 : W4.cell? ⟨b3, 0, none⟩ = some (.int .i64 3) := (blk_cell k3.out 0).trans rfl; have e31 : W4.cell? ⟨b3, 1, none⟩ = some (.string d) := (blk_cell k3.out 1).trans rfl; have e50 : W4.cell? ⟨b5, 0, none⟩ = some (.int .i64 9) := (blk_cell k5.out 0).trans rfl; have e51 : W4.cell? ⟨b5, 1, none⟩ = some (.int .i64 ec) := (blk_cell k5.out 1).trans rfl; have e52 : W4.cell? ⟨b5, 2, none⟩ = some (.int .u8 ed) := (blk_cell k5.out 2).trans rfl; have e60 : W4.cell? ⟨b6, 0, none⟩ = some (.int .i64 0) := (blk_cell k6.out 0).trans rfl; have e61 : W4.cell? ⟨b6, 1, none⟩ = some (.string ⟨#[]⟩) := (blk_cell k6.out 1).trans rfl; have f60 : W4.frozen? ⟨b6, 0, none⟩ = false := blk_frozen k6.out 0; have f61 : W4.frozen? ⟨b6, 1, none⟩ = false := blk_frozen k6.out 1))
        exact refS_end (blk_put (blk_put k6.out 0 (.int .i64 5) rfl) 1 (.string ⟨#[]⟩) rfl) rfl rfl rfl rfl ⟨_, rfl, Kd.R_set (Kd.R_set hR.out k6.out (by decide) 0 _) (blk_put k6.out 0 (.int .i64 5) rfl) (by decide) 1 _, below_set (below_set hB.out g6.out) g6.out⟩
      by_cases e2 : ek = 2
      · subst e2
        have hX := Option.some.inj (show some ((0 : Int), (⟨#[]⟩ : ByteArray), ([⟨2, 0, ⟨#[]⟩, 0⟩, ⟨7, 16, ⟨#[]⟩, 0⟩] : Al), (0 : Int)) = some (r1, r2, r3, r4) from h)
        simp only [Prod.mk.injEq] at hX
        obtain ⟨rfl, rfl, rfl, rfl⟩ := hX
        clear h
        go_wp2_with (first | (go_at_call 54; refine (actR_in 2 _).mono ?_; rintro e W3 ⟨rfl, hB1⟩; replace k3 := Aside0.mk (blk_below k3.out hB1); replace k5 := Aside0.mk (blk_below k5.out hB1); replace k6 := Aside0.mk (blk_below k6.out hB1); replace hB := Aside0.mk (below_then hB.out hB.out.size hB1); clear hB1; clear e30 e31 e50 e51 e52 e60 e61 f60 f61; have e30 : W3.cell? ⟨b3, 0, none⟩ = some (.int .i64 3) := (blk_cell k3.out 0).trans rfl; have e31 : W3.cell? ⟨b3, 1, none⟩ = some (.string d) := (blk_cell k3.out 1).trans rfl; have e50 : W3.cell? ⟨b5, 0, none⟩ = some (.int .i64 2) := (blk_cell k5.out 0).trans rfl; have e51 : W3.cell? ⟨b5, 1, none⟩ = some (.int .i64 ec) := (blk_cell k5.out 1).trans rfl; have e52 : W3.cell? ⟨b5, 2, none⟩ = some (.int .u8 ed) := (blk_cell k5.out 2).trans rfl; have e60 : W3.cell? ⟨b6, 0, none⟩ = some (.int .i64 0) := (blk_cell k6.out 0).trans rfl; have e61 : W3.cell? ⟨b6, 1, none⟩ = some (.string ⟨#[]⟩) := (blk_cell k6.out 1).trans rfl; have f60 : W3.frozen? ⟨b6, 0, none⟩ = false := blk_frozen k6.out 0; have f61 : W3.frozen? ⟨b6, 1, none⟩ = false := blk_frozen k6.out 1) | ((with_reducible refine gate_dst (N := 123) rfl ?_); refine Kd.R_lit k62 _ 62 ?hg (N := 123) ?hd (xs := ([⟨2, 0, ⟨#[]⟩, 0⟩, ⟨7, 16, ⟨#[]⟩, 0⟩] : Al)) (inner := [.int .i64 2, .int .i64 0, .string ⟨#[]⟩, .int .i64 0, .int .i64 7, .int .i64 16, .string ⟨#[]⟩, .int .i64 0]) (ok := fun _ => True) (okp := fun _ => True) ?hr ?hp (fun _ hk => hk) trivial (Below.refl _ _) (Nat.le_refl _) (by simp) ?_; (case hd => rfl); (case hg => rfl); (case hr => first | (go_simp; done) | (go_simp; rfl)); (case hp => exact (Reps.c4 (show Kd.M k62 _ _ _ (⟨2, 0, ⟨#[]⟩, 0⟩ : S62) [.int .i64 2, .int .i64 0, .string ⟨#[]⟩, .int .i64 0] from k62_mkM _ _ _ _) (Reps.c4 (show Kd.M k62 _ _ _ (⟨7, 16, ⟨#[]⟩, 0⟩ : S62) [.int .i64 7, .int .i64 16, .string ⟨#[]⟩, .int .i64 0] from k62_mkM _ _ _ _) (Reps.none _ _)))); intro vL W4 hoL hB1 hg_ hnew_; clear hg_ hnew_; obtain ⟨AL, LL, cL, hvL⟩ := R_shape hoL; subst hvL; have hR := Aside0.mk (Kd.R_lower hoL (below_size hB.out)); clear hoL; replace k3 := Aside0.mk (blk_below k3.out hB1); replace k5 := Aside0.mk (blk_below k5.out hB1); replace k6 := Aside0.mk (blk_below k6.out hB1); replace hB := Aside0.mk (below_then hB.out hB.out.size hB1); clear hB1; clear e30 e31 e50 e51 e52 e60 e61 f60 f61; have e30 : W4.cell? ⟨b3, 0, none⟩ = some (.int .i64 3) := (blk_cell k3.out 0).trans rfl; have e31 : W4.cell? ⟨b3, 1, none⟩ = some (.string d) := (blk_cell k3.out 1).trans rfl; have e50 : W4.cell? ⟨b5, 0, none⟩ = some (.int .i64 2) := (blk_cell k5.out 0).trans rfl; have e51 : W4.cell? ⟨b5, 1, none⟩ = some (.int .i64 ec) := (blk_cell k5.out 1).trans rfl; have e52 : W4.cell? ⟨b5, 2, none⟩ = some (.int .u8 ed) := (blk_cell k5.out 2).trans rfl; have e60 : W4.cell? ⟨b6, 0, none⟩ = some (.int .i64 0) := (blk_cell k6.out 0).trans rfl; have e61 : W4.cell? ⟨b6, 1, none⟩ = some (.string ⟨#[]⟩) := (blk_cell k6.out 1).trans rfl; have f60 : W4.frozen? ⟨b6, 0, none⟩ = false := blk_frozen k6.out 0; have f61 : W4.frozen? ⟨b6, 1, none⟩ = false := blk_frozen k6.out 1))
        exact refS_end (blk_put (blk_put k6.out 0 (.int .i64 0) rfl) 1 (.string ⟨#[]⟩) rfl) rfl rfl rfl rfl ⟨_, rfl, Kd.R_set (Kd.R_set hR.out k6.out (by decide) 0 _) (blk_put k6.out 0 (.int .i64 0) rfl) (by decide) 1 _, below_set (below_set hB.out g6.out) g6.out⟩
      rw [show refT 3 d ek ec = (0, ⟨#[]⟩, [], 160) by unfold refT; simp [e3, e8, e9, e2]] at h
      simp only [Option.some.injEq, Prod.mk.injEq] at h
      obtain ⟨rfl, rfl, rfl, rfl⟩ := h
      have d3 : (ek == 3) = false := beq_eq_false_iff_ne.2 e3
      have d8 : (ek == 8) = false := beq_eq_false_iff_ne.2 e8
      have d9 : (ek == 9) = false := beq_eq_false_iff_ne.2 e9
      have d2 : (ek == 2) = false := beq_eq_false_iff_ne.2 e2
      clear e3 e8 e9 e2
      go_wp2
      exact refS_end (blk_put (blk_put k6.out 0 (.int .i64 0) rfl) 1 (.string ⟨#[]⟩) rfl) rfl rfl rfl rfl ⟨_, rfl, Kd.R_nil _ _ _ _ _, below_set (below_set hB.out g6.out) g6.out⟩
    · by_cases e3 : ek = 3
      · subst e3
        have hX := Option.some.inj (show some ((4 : Int), d, ([] : Al), (0 : Int)) = some (r1, r2, r3, r4) from h)
        simp only [Prod.mk.injEq] at hX
        obtain ⟨rfl, rfl, rfl, rfl⟩ := hX
        clear h
        go_wp2
        exact refS_end (blk_put (blk_put k6.out 0 (.int .i64 4) rfl) 1 (.string d) rfl) rfl rfl rfl rfl ⟨_, rfl, Kd.R_nil _ _ _ _ _, below_set (below_set hB.out g6.out) g6.out⟩
      by_cases e9 : ek = 9
      · subst e9
        have hX := Option.some.inj (show some ((5 : Int), (⟨#[]⟩ : ByteArray), ([⟨3, ec, ⟨#[]⟩, 0⟩] : Al), (0 : Int)) = some (r1, r2, r3, r4) from h)
        simp only [Prod.mk.injEq] at hX
        obtain ⟨rfl, rfl, rfl, rfl⟩ := hX
        clear h
        go_wp2_with (first | (go_at_call 56; refine (toneR_in ec _).mono ?_; rintro e W3 ⟨rfl, hB1⟩; replace k3 := Aside0.mk (blk_below k3.out hB1); replace k5 := Aside0.mk (blk_below k5.out hB1); replace k6 := Aside0.mk (blk_below k6.out hB1); replace hB := Aside0.mk (below_then hB.out hB.out.size hB1); clear hB1; clear e30 e31 e50 e51 e52 e60 e61 f60 f61; have e30 : W3.cell? ⟨b3, 0, none⟩ = some (.int .i64 4) := (blk_cell k3.out 0).trans rfl; have e31 : W3.cell? ⟨b3, 1, none⟩ = some (.string d) := (blk_cell k3.out 1).trans rfl; have e50 : W3.cell? ⟨b5, 0, none⟩ = some (.int .i64 9) := (blk_cell k5.out 0).trans rfl; have e51 : W3.cell? ⟨b5, 1, none⟩ = some (.int .i64 ec) := (blk_cell k5.out 1).trans rfl; have e52 : W3.cell? ⟨b5, 2, none⟩ = some (.int .u8 ed) := (blk_cell k5.out 2).trans rfl; have e60 : W3.cell? ⟨b6, 0, none⟩ = some (.int .i64 0) := (blk_cell k6.out 0).trans rfl; have e61 : W3.cell? ⟨b6, 1, none⟩ = some (.string ⟨#[]⟩) := (blk_cell k6.out 1).trans rfl; have f60 : W3.frozen? ⟨b6, 0, none⟩ = false := blk_frozen k6.out 0; have f61 : W3.frozen? ⟨b6, 1, none⟩ = false := blk_frozen k6.out 1) | ((with_reducible refine gate_dst (N := 112) rfl ?_); refine Kd.R_lit k62 _ 62 ?hg (N := 112) ?hd (xs := ([⟨3, ec, ⟨#[]⟩, 0⟩] : Al)) (inner := [.int .i64 3, .int .i64 ec, .string ⟨#[]⟩, .int .i64 0]) (ok := fun _ => True) (okp := fun _ => True) ?hr ?hp (fun _ hk => hk) trivial (Below.refl _ _) (Nat.le_refl _) (by simp) ?_; (case hd => rfl); (case hg => rfl); (case hr => first | (go_simp; done) | (go_simp; rfl)); (case hp => exact (Reps.c4 (show Kd.M k62 _ _ _ (⟨3, ec, ⟨#[]⟩, 0⟩ : S62) [.int .i64 3, .int .i64 ec, .string ⟨#[]⟩, .int .i64 0] from k62_mkM _ _ _ _) (Reps.none _ _))); intro vL W4 hoL hB1 hg_ hnew_; clear hg_ hnew_; obtain ⟨AL, LL, cL, hvL⟩ := R_shape hoL; subst hvL; have hR := Aside0.mk (Kd.R_lower hoL (below_size hB.out)); clear hoL; replace k3 := Aside0.mk (blk_below k3.out hB1); replace k5 := Aside0.mk (blk_below k5.out hB1); replace k6 := Aside0.mk (blk_below k6.out hB1); replace hB := Aside0.mk (below_then hB.out hB.out.size hB1); clear hB1; clear e30 e31 e50 e51 e52 e60 e61 f60 f61; have e30 : W4.cell? ⟨b3, 0, none⟩ = some (.int .i64 4) := (blk_cell k3.out 0).trans rfl; have e31 : W4.cell? ⟨b3, 1, none⟩ = some (.string d) := (blk_cell k3.out 1).trans rfl; have e50 : W4.cell? ⟨b5, 0, none⟩ = some (.int .i64 9) := (blk_cell k5.out 0).trans rfl; have e51 : W4.cell? ⟨b5, 1, none⟩ = some (.int .i64 ec) := (blk_cell k5.out 1).trans rfl; have e52 : W4.cell? ⟨b5, 2, none⟩ = some (.int .u8 ed) := (blk_cell k5.out 2).trans rfl; have e60 : W4.cell? ⟨b6, 0, none⟩ = some (.int .i64 0) := (blk_cell k6.out 0).trans rfl; have e61 : W4.cell? ⟨b6, 1, none⟩ = some (.string ⟨#[]⟩) := (blk_cell k6.out 1).trans rfl; have f60 : W4.frozen? ⟨b6, 0, none⟩ = false := blk_frozen k6.out 0; have f61 : W4.frozen? ⟨b6, 1, none⟩ = false := blk_frozen k6.out 1))
        exact refS_end (blk_put (blk_put k6.out 0 (.int .i64 5) rfl) 1 (.string ⟨#[]⟩) rfl) rfl rfl rfl rfl ⟨_, rfl, Kd.R_set (Kd.R_set hR.out k6.out (by decide) 0 _) (blk_put k6.out 0 (.int .i64 5) rfl) (by decide) 1 _, below_set (below_set hB.out g6.out) g6.out⟩
      by_cases e2 : ek = 2
      · subst e2
        have hX := Option.some.inj (show some ((0 : Int), (⟨#[]⟩ : ByteArray), ([⟨2, 0, ⟨#[]⟩, 0⟩, ⟨7, 16, ⟨#[]⟩, 0⟩] : Al), (0 : Int)) = some (r1, r2, r3, r4) from h)
        simp only [Prod.mk.injEq] at hX
        obtain ⟨rfl, rfl, rfl, rfl⟩ := hX
        clear h
        go_wp2_with (first | (go_at_call 54; refine (actR_in 2 _).mono ?_; rintro e W3 ⟨rfl, hB1⟩; replace k3 := Aside0.mk (blk_below k3.out hB1); replace k5 := Aside0.mk (blk_below k5.out hB1); replace k6 := Aside0.mk (blk_below k6.out hB1); replace hB := Aside0.mk (below_then hB.out hB.out.size hB1); clear hB1; clear e30 e31 e50 e51 e52 e60 e61 f60 f61; have e30 : W3.cell? ⟨b3, 0, none⟩ = some (.int .i64 4) := (blk_cell k3.out 0).trans rfl; have e31 : W3.cell? ⟨b3, 1, none⟩ = some (.string d) := (blk_cell k3.out 1).trans rfl; have e50 : W3.cell? ⟨b5, 0, none⟩ = some (.int .i64 2) := (blk_cell k5.out 0).trans rfl; have e51 : W3.cell? ⟨b5, 1, none⟩ = some (.int .i64 ec) := (blk_cell k5.out 1).trans rfl; have e52 : W3.cell? ⟨b5, 2, none⟩ = some (.int .u8 ed) := (blk_cell k5.out 2).trans rfl; have e60 : W3.cell? ⟨b6, 0, none⟩ = some (.int .i64 0) := (blk_cell k6.out 0).trans rfl; have e61 : W3.cell? ⟨b6, 1, none⟩ = some (.string ⟨#[]⟩) := (blk_cell k6.out 1).trans rfl; have f60 : W3.frozen? ⟨b6, 0, none⟩ = false := blk_frozen k6.out 0; have f61 : W3.frozen? ⟨b6, 1, none⟩ = false := blk_frozen k6.out 1) | ((with_reducible refine gate_dst (N := 123) rfl ?_); refine Kd.R_lit k62 _ 62 ?hg (N := 123) ?hd (xs := ([⟨2, 0, ⟨#[]⟩, 0⟩, ⟨7, 16, ⟨#[]⟩, 0⟩] : Al)) (inner := [.int .i64 2, .int .i64 0, .string ⟨#[]⟩, .int .i64 0, .int .i64 7, .int .i64 16, .string ⟨#[]⟩, .int .i64 0]) (ok := fun _ => True) (okp := fun _ => True) ?hr ?hp (fun _ hk => hk) trivial (Below.refl _ _) (Nat.le_refl _) (by simp) ?_; (case hd => rfl); (case hg => rfl); (case hr => first | (go_simp; done) | (go_simp; rfl)); (case hp => exact (Reps.c4 (show Kd.M k62 _ _ _ (⟨2, 0, ⟨#[]⟩, 0⟩ : S62) [.int .i64 2, .int .i64 0, .string ⟨#[]⟩, .int .i64 0] from k62_mkM _ _ _ _) (Reps.c4 (show Kd.M k62 _ _ _ (⟨7, 16, ⟨#[]⟩, 0⟩ : S62) [.int .i64 7, .int .i64 16, .string ⟨#[]⟩, .int .i64 0] from k62_mkM _ _ _ _) (Reps.none _ _)))); intro vL W4 hoL hB1 hg_ hnew_; clear hg_ hnew_; obtain ⟨AL, LL, cL, hvL⟩ := R_shape hoL; subst hvL; have hR := Aside0.mk (Kd.R_lower hoL (below_size hB.out)); clear hoL; replace k3 := Aside0.mk (blk_below k3.out hB1); replace k5 := Aside0.mk (blk_below k5.out hB1); replace k6 := Aside0.mk (blk_below k6.out hB1); replace hB := Aside0.mk (below_then hB.out hB.out.size hB1); clear hB1; clear e30 e31 e50 e51 e52 e60 e61 f60 f61; have e30 : W4.cell? ⟨b3, 0, none⟩ = some (.int .i64 4) := (blk_cell k3.out 0).trans rfl; have e31 : W4.cell? ⟨b3, 1, none⟩ = some (.string d) := (blk_cell k3.out 1).trans rfl; have e50 : W4.cell? ⟨b5, 0, none⟩ = some (.int .i64 2) := (blk_cell k5.out 0).trans rfl; have e51 : W4.cell? ⟨b5, 1, none⟩ = some (.int .i64 ec) := (blk_cell k5.out 1).trans rfl; have e52 : W4.cell? ⟨b5, 2, none⟩ = some (.int .u8 ed) := (blk_cell k5.out 2).trans rfl; have e60 : W4.cell? ⟨b6, 0, none⟩ = some (.int .i64 0) := (blk_cell k6.out 0).trans rfl; have e61 : W4.cell? ⟨b6, 1, none⟩ = some (.string ⟨#[]⟩) := (blk_cell k6.out 1).trans rfl; have f60 : W4.frozen? ⟨b6, 0, none⟩ = false := blk_frozen k6.out 0; have f61 : W4.frozen? ⟨b6, 1, none⟩ = false := blk_frozen k6.out 1))
        exact refS_end (blk_put (blk_put k6.out 0 (.int .i64 0) rfl) 1 (.string ⟨#[]⟩) rfl) rfl rfl rfl rfl ⟨_, rfl, Kd.R_set (Kd.R_set hR.out k6.out (by decide) 0 _) (blk_put k6.out 0 (.int .i64 0) rfl) (by decide) 1 _, below_set (below_set hB.out g6.out) g6.out⟩
      rw [show refT 4 d ek ec = (0, ⟨#[]⟩, [], 160) by unfold refT; simp [e3, e9, e2]] at h
      simp only [Option.some.injEq, Prod.mk.injEq] at h
      obtain ⟨rfl, rfl, rfl, rfl⟩ := h
      have d3 : (ek == 3) = false := beq_eq_false_iff_ne.2 e3
      have d9 : (ek == 9) = false := beq_eq_false_iff_ne.2 e9
      have d2 : (ek == 2) = false := beq_eq_false_iff_ne.2 e2
      clear e3 e9 e2
      go_wp2
      exact refS_end (blk_put (blk_put k6.out 0 (.int .i64 0) rfl) 1 (.string ⟨#[]⟩) rfl) rfl rfl rfl rfl ⟨_, rfl, Kd.R_nil _ _ _ _ _, below_set (below_set hB.out g6.out) g6.out⟩
    · by_cases e3 : ek = 3
      · subst e3
        have hX := Option.some.inj (show some ((5 : Int), d, ([] : Al), (0 : Int)) = some (r1, r2, r3, r4) from h)
        simp only [Prod.mk.injEq] at hX
        obtain ⟨rfl, rfl, rfl, rfl⟩ := hX
        clear h
        go_wp2
        exact refS_end (blk_put (blk_put k6.out 0 (.int .i64 5) rfl) 1 (.string d) rfl) rfl rfl rfl rfl ⟨_, rfl, Kd.R_nil _ _ _ _ _, below_set (below_set hB.out g6.out) g6.out⟩
      by_cases e2 : ek = 2
      · subst e2
        have hX := Option.some.inj (show some ((0 : Int), (⟨#[]⟩ : ByteArray), ([⟨2, 0, ⟨#[]⟩, 0⟩] : Al), (0 : Int)) = some (r1, r2, r3, r4) from h)
        simp only [Prod.mk.injEq] at hX
        obtain ⟨rfl, rfl, rfl, rfl⟩ := hX
        clear h
        go_wp2_with (first | (go_at_call 54; refine (actR_in 2 _).mono ?_; rintro e W3 ⟨rfl, hB1⟩; replace k3 := Aside0.mk (blk_below k3.out hB1); replace k5 := Aside0.mk (blk_below k5.out hB1); replace k6 := Aside0.mk (blk_below k6.out hB1); replace hB := Aside0.mk (below_then hB.out hB.out.size hB1); clear hB1; clear e30 e31 e50 e51 e52 e60 e61 f60 f61; have e30 : W3.cell? ⟨b3, 0, none⟩ = some (.int .i64 5) := (blk_cell k3.out 0).trans rfl; have e31 : W3.cell? ⟨b3, 1, none⟩ = some (.string d) := (blk_cell k3.out 1).trans rfl; have e50 : W3.cell? ⟨b5, 0, none⟩ = some (.int .i64 2) := (blk_cell k5.out 0).trans rfl; have e51 : W3.cell? ⟨b5, 1, none⟩ = some (.int .i64 ec) := (blk_cell k5.out 1).trans rfl; have e52 : W3.cell? ⟨b5, 2, none⟩ = some (.int .u8 ed) := (blk_cell k5.out 2).trans rfl; have e60 : W3.cell? ⟨b6, 0, none⟩ = some (.int .i64 0) := (blk_cell k6.out 0).trans rfl; have e61 : W3.cell? ⟨b6, 1, none⟩ = some (.string ⟨#[]⟩) := (blk_cell k6.out 1).trans rfl; have f60 : W3.frozen? ⟨b6, 0, none⟩ = false := blk_frozen k6.out 0; have f61 : W3.frozen? ⟨b6, 1, none⟩ = false := blk_frozen k6.out 1) | ((with_reducible refine gate_dst (N := 135) rfl ?_); refine Kd.R_lit k62 _ 62 ?hg (N := 135) ?hd (xs := ([⟨2, 0, ⟨#[]⟩, 0⟩] : Al)) (inner := [.int .i64 2, .int .i64 0, .string ⟨#[]⟩, .int .i64 0]) (ok := fun _ => True) (okp := fun _ => True) ?hr ?hp (fun _ hk => hk) trivial (Below.refl _ _) (Nat.le_refl _) (by simp) ?_; (case hd => rfl); (case hg => rfl); (case hr => first | (go_simp; done) | (go_simp; rfl)); (case hp => exact (Reps.c4 (show Kd.M k62 _ _ _ (⟨2, 0, ⟨#[]⟩, 0⟩ : S62) [.int .i64 2, .int .i64 0, .string ⟨#[]⟩, .int .i64 0] from k62_mkM _ _ _ _) (Reps.none _ _))); intro vL W4 hoL hB1 hg_ hnew_; clear hg_ hnew_; obtain ⟨AL, LL, cL, hvL⟩ := R_shape hoL; subst hvL; have hR := Aside0.mk (Kd.R_lower hoL (below_size hB.out)); clear hoL; replace k3 := Aside0.mk (blk_below k3.out hB1); replace k5 := Aside0.mk (blk_below k5.out hB1); replace k6 := Aside0.mk (blk_below k6.out hB1); replace hB := Aside0.mk (below_then hB.out hB.out.size hB1); clear hB1; clear e30 e31 e50 e51 e52 e60 e61 f60 f61; have e30 : W4.cell? ⟨b3, 0, none⟩ = some (.int .i64 5) := (blk_cell k3.out 0).trans rfl; have e31 : W4.cell? ⟨b3, 1, none⟩ = some (.string d) := (blk_cell k3.out 1).trans rfl; have e50 : W4.cell? ⟨b5, 0, none⟩ = some (.int .i64 2) := (blk_cell k5.out 0).trans rfl; have e51 : W4.cell? ⟨b5, 1, none⟩ = some (.int .i64 ec) := (blk_cell k5.out 1).trans rfl; have e52 : W4.cell? ⟨b5, 2, none⟩ = some (.int .u8 ed) := (blk_cell k5.out 2).trans rfl; have e60 : W4.cell? ⟨b6, 0, none⟩ = some (.int .i64 0) := (blk_cell k6.out 0).trans rfl; have e61 : W4.cell? ⟨b6, 1, none⟩ = some (.string ⟨#[]⟩) := (blk_cell k6.out 1).trans rfl; have f60 : W4.frozen? ⟨b6, 0, none⟩ = false := blk_frozen k6.out 0; have f61 : W4.frozen? ⟨b6, 1, none⟩ = false := blk_frozen k6.out 1))
        exact refS_end (blk_put (blk_put k6.out 0 (.int .i64 0) rfl) 1 (.string ⟨#[]⟩) rfl) rfl rfl rfl rfl ⟨_, rfl, Kd.R_set (Kd.R_set hR.out k6.out (by decide) 0 _) (blk_put k6.out 0 (.int .i64 0) rfl) (by decide) 1 _, below_set (below_set hB.out g6.out) g6.out⟩
      rw [show refT 5 d ek ec = (0, ⟨#[]⟩, [], 160) by unfold refT; simp [e3, e2]] at h
      simp only [Option.some.injEq, Prod.mk.injEq] at h
      obtain ⟨rfl, rfl, rfl, rfl⟩ := h
      have d3 : (ek == 3) = false := beq_eq_false_iff_ne.2 e3
      have d2 : (ek == 2) = false := beq_eq_false_iff_ne.2 e2
      clear e3 e2
      go_wp2
      exact refS_end (blk_put (blk_put k6.out 0 (.int .i64 0) rfl) 1 (.string ⟨#[]⟩) rfl) rfl rfl rfl rfl ⟨_, rfl, Kd.R_nil _ _ _ _ _, below_set (below_set hB.out g6.out) g6.out⟩

end Go.Proofs.YthknfclhkmehgaaDoor.Fn
