/-
  origin.caller's larger methods: the walks.
-/
import Derived.Test.YthknfclhkmehgaaDoorEMeth
import Derived.Test.YthknfclhkmehgaaDoorEDial
import Derived.Deep.RegionHeld3
namespace Go.Proofs.YthknfclhkmehgaaDoor.Fn
open Go.RowKit Go.Maps Go.Proofs.YthknfclhkmehgaaDoorW.PrintWords Go.Proofs.YthknfclhkmehgaaDoorW.PrintLast Go.Proofs.YthknfclhkmehgaaDoorW.PrintMore
set_option linter.unusedVariables false
set_option linter.unusedSimpArgs false

/-- The rules are read in a world ahead. -/
theorem Cl_rules {w0 : World} {c : Nat} {A0 : Option Addr} {n c0 : Nat} {kd cs dg : Int} {W : World} {st : Int} {d : ByteArray} {acts : Al} (h : Cl w0 c A0 n c0 kd cs dg W st d acts) {l0 : Rl} (hr : Kd.C k35 w0 A0 n l0) : Kd.C k35 W A0 n l0 := by
  obtain ⟨v, h1, h2, h3, h4⟩ := h
  exact Kd.C_below hr h3

set_option maxHeartbeats 4000000 in
set_option maxRecDepth 100000 in
theorem Anal_in (k : Nat) (w0 : World) (c : Nat) (A0 : Option Addr) (c0 : Nat) (l0 : Rl) (hr0 : Kd.C k35 w0 A0 l0.length l0) (hc0 : l0.length ≤ c0) (kd cs dg : Int) (w : World) (st : Int) (d : ByteArray) (acts : Al) (h : Cl w0 c A0 l0.length c0 kd cs dg w st d acts) (fin : Bool) (x y z : Int) (hA : dialplan_Analyze.f k l0 d fin = some (x, y, z)) :
    Calls Tryd.prog 90 #[.pointer (some ⟨c, 0, none⟩), .bool fin] w fun e w' => e = .returned (.agg #[.int .i64 x, .int .i64 y]) ∧ Cl w0 c A0 l0.length c0 kd cs dg w' st d acts := by
  have hu45 := Tryd.underlying45
  have hu99 := Tryd.underlying99
  have hu26 := Tryd.underlying26
  have HR0 := Aside0.mk (Cl_rules h hr0)
  have HC0 := Aside0.mk hc0
  have hcl := Aside0.mk h
  obtain ⟨v, h1, _, _, _⟩ := h
  replace hA := Aside0.mk hA
  replace h1 := Aside0.mk h1
  clear hr0 hc0
  have hend : ∀ (W : World) (a : Act), W.heap[w.heap.size]? = some (.cells #[.int .i64 x, .int .i64 y] 26 (0, 0)) → Below w.heap.size w W → a.tmps[4]? = some (.pointer (some ⟨w.heap.size, 0, none⟩)) → a.defers = [] →
      bodyPost Tryd.prog Tryd.f90 (fun e w' => e = .returned (.agg #[.int .i64 x, .int .i64 y]) ∧ Cl w0 c A0 l0.length c0 kd cs dg w' st d acts) Exit.ret a W := by
    intro W a h hB h4 hd
    refine bodyPost_ret (v := .agg #[.int .i64 x, .int .i64 y]) ?_ hd ⟨rfl, Cl_below hcl.out hB⟩
    have hc0 : W.cell? ⟨w.heap.size, 0, none⟩ = some (.int .i64 x) := (blk_cell h 0).trans rfl
    have hc1 : W.cell? ⟨w.heap.size, 1, none⟩ = some (.int .i64 y) := (blk_cell h 1).trans rfl
    obtain ⟨tmps, defers⟩ := a
    dsimp only at h4
    simp [results, Tryd.f90, go_sem, hc0, hc1, h4, hu26]
  have hset : ∀ (W : World), W.heap[w.heap.size]? = some (.cells #[.int .i64 0, .int .i64 0] 26 (0, 0)) → Below w.heap.size w W → ∀ a : Act, a.tmps[4]? = some (.pointer (some ⟨w.heap.size, 0, none⟩)) → a.defers = [] →
      bodyPost Tryd.prog Tryd.f90 (fun e w' => e = .returned (.agg #[.int .i64 x, .int .i64 y]) ∧ Cl w0 c A0 l0.length c0 kd cs dg w' st d acts) Exit.ret a ((W.setCell ⟨w.heap.size, 0, none⟩ (.int .i64 x)).setCell ⟨w.heap.size, 1, none⟩ (.int .i64 y)) :=
    fun W h hB a h4 hd => hend _ a (blk_put (blk_put h 0 (.int .i64 x) rfl) 1 (.int .i64 y) rfl) (below_set (below_set hB (Nat.le_refl _)) (Nat.le_refl _)) h4 hd
  replace hset := Aside0.mk hset
  clear hend
  go_enter Tryd.func90, Tryd.ntmps90
  go_upto_region 1 with (fail)
  obtain ⟨W0, hW0⟩ : ∃ W0, w.alloc (.cells #[.int .i64 0, .int .i64 0] 26) = W0 := ⟨_, rfl⟩
  rw [hW0]
  have hb0 : Below w.heap.size w W0 := by rw [← hW0]; exact below_alloc (Below.refl _ _) _
  have hr4 : W0.heap[w.heap.size]? = some (.cells #[.int .i64 0, .int .i64 0] 26 (0, 0)) := by rw [← hW0]; exact blk_new _ _
  have h10 := blk_below h1.out hb0
  have e1 : W0.cell? ⟨c, 1, none⟩ = some (.string d) := (blk_cell h10 1).trans rfl
  have e2 : W0.cell? ⟨c, 2, none⟩ = some (.slice A0 l0.length c0) := (blk_cell h10 2).trans rfl
  have hn1 : W0.heap.size ≠ c := Nat.ne_of_gt (blk_lt h10)
  replace hb0 := Aside0.mk hb0
  replace hr4 := Aside0.mk hr4
  replace h10 := Aside0.mk h10
  clear hW0 h1
  go_region_held3 (fun W => W.cell? ⟨c, 1, none⟩ = some (.string d) ∧ W.cell? ⟨c, 2, none⟩ = some (.slice A0 l0.length c0)) (go_keep) (first | (go_at_call 16; refine (dialplan_Analyze.calls k A0 c0 l0 d fin x y z _ (by repeat (first | exact Kd.C_below HR0.out hb0.out | refine Kd.C_alloc ?_ _ | refine Kd.C_drew ?_)) HC0.out hA.out).mono ?_; rintro e W1 ⟨rfl, hB1⟩; have g1 := Aside0.mk (blk_below (g := c) (o := .cells #[.int .i64 st, .string d, .slice A0 l0.length c0, .int .i64 kd, .int .i64 cs, .int .u8 dg, v] 99 (0, 0)) (by repeat (first | exact h10.out | refine blk_alloc ?_ _ | refine blk_drew ?_)) hB1); have q1 : W1.cell? ⟨c, 1, none⟩ = some (.string d) := (blk_cell g1.out 1).trans rfl; have q2 : W1.cell? ⟨c, 2, none⟩ = some (.slice A0 l0.length c0) := (blk_cell g1.out 2).trans rfl; (try (have hz9 := blk_below (w := W0.drew.alloc (.cells #[.int .i64 0, .int .i64 0] 26)) (blk_new _ _) hB1; have hz90 : W1.cell? ⟨W0.heap.size, 0, none⟩ = some (.int .i64 0) := (blk_cell hz9 0).trans rfl; have hz91 : W1.cell? ⟨W0.heap.size, 1, none⟩ = some (.int .i64 0) := (blk_cell hz9 1).trans rfl; have hz9f : W1.frozen? ⟨W0.heap.size, 0, none⟩ = false := blk_frozen hz9 0; have hz9g : W1.frozen? ⟨W0.heap.size, 1, none⟩ = false := blk_frozen hz9 1; replace hz9 := Aside0.mk hz9)); have hn2 : W1.heap.size ≠ c := Nat.ne_of_gt (blk_lt g1.out); replace hB1 := Aside0.mk hB1))
  · obtain ⟨W2, hW2⟩ : ∃ W2, W1.alloc (.cells #[.int .i64 x, .int .i64 y] 26) = W2 := ⟨_, rfl⟩
    rw [hW2]
    have k5 : W2.heap[W1.heap.size]? = some (.cells #[.int .i64 x, .int .i64 y] 26 (0, 0)) := by rw [← hW2]; exact blk_new _ _
    have k4 : W2.heap[w.heap.size]? = some (.cells #[.int .i64 0, .int .i64 0] 26 (0, 0)) := by rw [← hW2]; exact blk_alloc (blk_below (blk_drew hr4.out) hB1.out) _
    have kb : Below w.heap.size w W2 := by rw [← hW2]; exact below_alloc (below_step (below_drew1 hb0.out) hB1.out) _
    obtain ⟨b5, hb5⟩ : ∃ b5, W1.heap.size = b5 := ⟨_, rfl⟩
    rw [hb5] at k5 ⊢
    have e50 : W2.cell? ⟨b5, 0, none⟩ = some (.int .i64 x) := (blk_cell k5 0).trans rfl
    have e51 : W2.cell? ⟨b5, 1, none⟩ = some (.int .i64 y) := (blk_cell k5 1).trans rfl
    have e40 : W2.cell? ⟨w.heap.size, 0, none⟩ = some (.int .i64 0) := (blk_cell k4 0).trans rfl
    have e41 : W2.cell? ⟨w.heap.size, 1, none⟩ = some (.int .i64 0) := (blk_cell k4 1).trans rfl
    have f40 : W2.frozen? ⟨w.heap.size, 0, none⟩ = false := blk_frozen k4 0
    have f41 : W2.frozen? ⟨w.heap.size, 1, none⟩ = false := blk_frozen k4 1
    replace k4 := Aside0.mk k4
    replace kb := Aside0.mk kb
    clear hW2 k5 hb5 e1 e2 q1 q2 hn1 hn2 hr4 hb0 h10 g1 hB1
    go_wp2
    exact hset.out W2 k4.out kb.out _ rfl rfl
  · obtain ⟨W2, hW2⟩ : ∃ W2, (W1.setCell ⟨W0.heap.size, 0, none⟩ (.int .i64 x)).setCell ⟨W0.heap.size, 1, none⟩ (.int .i64 y) = W2 := ⟨_, rfl⟩
    rw [hW2]
    have n45 : w.heap.size ≠ W0.heap.size := Nat.ne_of_lt (blk_lt hr4.out)
    have k5 : W2.heap[W0.heap.size]? = some (.cells #[.int .i64 x, .int .i64 y] 26 (0, 0)) := by rw [← hW2]; exact blk_put (blk_put hz9.out 0 (.int .i64 x) rfl) 1 (.int .i64 y) rfl
    have k4 : W2.heap[w.heap.size]? = some (.cells #[.int .i64 0, .int .i64 0] 26 (0, 0)) := by rw [← hW2]; exact blk_far (blk_far (blk_below (blk_drew (blk_alloc hr4.out _)) hB1.out) n45 _) n45 _
    have kb : Below w.heap.size w W2 := by rw [← hW2]; exact below_set (below_set (below_step (below_drew1 (below_alloc hb0.out _)) hB1.out) hb0.out.size) hb0.out.size
    obtain ⟨b5, hb5⟩ : ∃ b5, W0.heap.size = b5 := ⟨_, rfl⟩
    rw [hb5] at k5 ⊢
    have e50 : W2.cell? ⟨b5, 0, none⟩ = some (.int .i64 x) := (blk_cell k5 0).trans rfl
    have e51 : W2.cell? ⟨b5, 1, none⟩ = some (.int .i64 y) := (blk_cell k5 1).trans rfl
    have e40 : W2.cell? ⟨w.heap.size, 0, none⟩ = some (.int .i64 0) := (blk_cell k4 0).trans rfl
    have e41 : W2.cell? ⟨w.heap.size, 1, none⟩ = some (.int .i64 0) := (blk_cell k4 1).trans rfl
    have f40 : W2.frozen? ⟨w.heap.size, 0, none⟩ = false := blk_frozen k4 0
    have f41 : W2.frozen? ⟨w.heap.size, 1, none⟩ = false := blk_frozen k4 1
    replace k4 := Aside0.mk k4
    replace kb := Aside0.mk kb
    clear hW2 k5 hb5 e1 e2 q1 q2 hn1 hn2 hr4 hb0 h10 g1 hB1 hz90 hz91 hz9f hz9g hz9
    go_wp2
    exact hset.out W2 k4.out kb.out _ rfl rfl

def decP (l : Rl) (d : ByteArray) (x y : Int) (acts : Al) : Int × ByteArray × Al :=
  if x ≠ 2 then (5, ⟨#[]⟩, acts ++ [⟨3, 28, ⟨#[]⟩, 0⟩]) else if (rd_T35 l y).f3 = 3 then (5, ⟨#[]⟩, (acts ++ [⟨6, 0, d, 0⟩]) ++ [⟨3, 0, ⟨#[]⟩, 0⟩]) else (2, ⟨#[]⟩, acts ++ [⟨5, 0, d, y⟩])

theorem Cl_eq {w0 : World} {c : Nat} {A0 : Option Addr} {n c0 : Nat} {kd cs dg : Int} {W : World} {st : Int} {d : ByteArray} {acts : Al} (h : Cl w0 c A0 n c0 kd cs dg W st d acts) {o : Int × ByteArray × Al} (ho : o = (st, d, acts)) : Cl w0 c A0 n c0 kd cs dg W o.1 o.2.1 o.2.2 := by
  subst ho
  exact h

set_option maxHeartbeats 4000000 in
set_option maxRecDepth 100000 in
theorem Decide_in (w0 : World) (c : Nat) (A0 : Option Addr) (c0 : Nat) (l0 : Rl) (hr0 : Kd.C k35 w0 A0 l0.length l0) (hc0 : l0.length ≤ c0) (kd cs dg : Int) (w : World) (st : Int) (d : ByteArray) (acts : Al) (h : Cl w0 c A0 l0.length c0 kd cs dg w st d acts) (hl : acts.length < 900) (x y : Int) (hxy : x = 2 → 0 ≤ y ∧ y < (l0.length : Int)) (o : Int × ByteArray × Al) (ho : o = decP l0 d x y acts) :
    Calls Tryd.prog 91 #[.pointer (some ⟨c, 0, none⟩), .agg #[.int .i64 x, .int .i64 y]] w fun e w' => e = .returned (.tuple #[]) ∧ Cl w0 c A0 l0.length c0 kd cs dg w' o.1 o.2.1 o.2.2 := by
  have hu26 := Tryd.underlying26
  have hu35 := Tryd.underlying35
  have hu45 := Tryd.underlying45
  have hu62 := Tryd.underlying62
  have hu99 := Tryd.underlying99
  have HR0 := Aside0.mk (Cl_rules h hr0)
  have HC0 := Aside0.mk hc0
  have hcl := Aside0.mk h
  replace hl := Aside0.mk hl
  clear hr0 hc0 h
  go_enter Tryd.func91, Tryd.ntmps91
  go_upto_region 1 with (fail)
  obtain ⟨W0, hW0⟩ : ∃ W0, w.alloc (.cells #[.int .i64 x, .int .i64 y] 26) = W0 := ⟨_, rfl⟩
  rw [hW0]
  have hb0 : Below w.heap.size w W0 := by rw [← hW0]; exact below_alloc (Below.refl _ _) _
  have k3 : W0.heap[w.heap.size]? = some (.cells #[.int .i64 x, .int .i64 y] 26 (0, 0)) := by rw [← hW0]; exact blk_new _ _
  have hC0 := Aside0.mk (Cl_below hcl.out hb0)
  obtain ⟨b3, hb3⟩ : ∃ b3, w.heap.size = b3 := ⟨_, rfl⟩
  rw [hb3] at k3 ⊢
  have e30 : W0.cell? ⟨b3, 0, none⟩ = some (.int .i64 x) := (blk_cell k3 0).trans rfl
  have e31 : W0.cell? ⟨b3, 1, none⟩ = some (.int .i64 y) := (blk_cell k3 1).trans rfl
  have HR1 := Aside0.mk (Kd.C_below HR0.out hb0)
  obtain ⟨v, h1, h2, h3, h4⟩ := hC0.out
  have e1 : W0.cell? ⟨c, 1, none⟩ = some (.string d) := (blk_cell h1 1).trans rfl
  have e2 : W0.cell? ⟨c, 2, none⟩ = some (.slice A0 l0.length c0) := (blk_cell h1 2).trans rfl
  have e6 : W0.cell? ⟨c, 6, none⟩ = some v := (blk_cell h1 6).trans rfl
  replace h1 := Aside0.mk h1
  replace h2 := Aside0.mk h2
  replace h3 := Aside0.mk h3
  replace h4 := Aside0.mk h4
  replace k3 := Aside0.mk k3
  clear hW0 hb0 hb3 hcl HR0
  unfold decP at ho
  by_cases hx : x = 2
  · subst hx
    obtain ⟨p0, p1⟩ := hxy rfl
    obtain ⟨ad, ead, hx0, hx1, hx2, hx3⟩ := at_T35 HR1.out y p0 p1
    cases ead
    obtain ⟨⟨p, mi, mx, rk⟩, hrd⟩ : ∃ q, q = rd_T35 l0 y := ⟨_, rfl⟩
    rw [← hrd] at hx0 hx1 hx2 hx3 ho
    simp only at hx0 hx1 hx2 hx3
    clear hrd hx0 hx1 hx2 HR1
    replace p0 := eq_true p0
    replace p1 := eq_true p1
    rw [if_neg (by decide)] at ho
    by_cases hk : rk = 3
    · subst hk
      rw [if_pos rfl] at ho
      replace ho := Aside0.mk ho
      go_wp2
      go_quiet (fail)
      obtain ⟨W1, hW1⟩ : ∃ W1, W0.drewN nq = W1 := ⟨_, rfl⟩
      rw [hW1]
      have e6' : W1.cell? ⟨c, 6, none⟩ = some v := by rw [← hW1]; exact e6
      have g1 := (show (W0.drewN nq).heap[c]? = _ from h1.out)
      rw [hW1] at g1
      replace g1 := Aside0.mk g1
      have g2 := Aside0.mk (show Kd.R k62 62 W1 w0.heap.size (fun _ => True) v acts by rw [← hW1]; exact Kd.R_drewN h2.out _)
      have g3 := Aside0.mk (show Below w0.heap.size w0 W1 by rw [← hW1]; exact pw_below_drewN h3.out _)
      clear hW1 e6 h1 h2 h3 e31 e1 e2 e30 hx3
      have h1 := g1
      have h2 := g2
      have h3 := g3
      have e6 := e6'
      clear g1 g2 g3 e6'
      go_wp2_with (first | ((with_reducible refine gate_builtin (b := .append) (xs := #[.tmp 46, .tmp 49]) rfl ?_); at_builtin; refine Kd.R_append k62 (w0 := w0) w0.heap.size rfl (.tmp 46) (.tmp 49) 48 62 (.agg #[(.int .i64 0), (.int .i64 0), (.string ⟨#[]⟩), (.int .i64 0)]) 40 rfl Tryd.underlying48 info62 rfl (by decide) (by omega) v acts ⟨6, 0, d, 0⟩ [.int .i64 6, .int .i64 0, .string d, .int .i64 0] (fun _ => True) (fun _ => False) rfl rfl ?aP (fun _ hk => hk.elim) ?aF ?aO ?aB ?aS ?aL ?_; (case aP => exact k62_mkM _ _ _ ⟨6, 0, d, 0⟩); (case aB => exact h3.out); (case aF => exact fun _ _ => trivial); (case aO => exact h2.out); (case aS => exact below_size h3.out); (case aL => have := hl.out; omega); intro v1 W2 ho2 hb hg hat; obtain ⟨Ao, Lo, co, hv1⟩ := R_shape ho2; subst hv1; obtain ⟨⟨e61, f61⟩, hC1⟩ := Cl_app h1.out h2.out h4.out ho2 hb hg; replace hC1 := Aside0.mk hC1; clear ho2 hb hg hat e6) | (go_at_call 92; refine (Tone_in _ _ _ _ _ _ _ _ _ _ _ _ hC1.out (by rw [List.length_append]; have := hl.out; simp only [List.length_cons, List.length_nil]; omega) 0).mono ?_; rintro e W3 ⟨rfl, hC2⟩; replace hC2 := Aside0.mk hC2))
      exact bodyPost_end (v := .tuple #[]) (results_none rfl _ _ _) rfl ⟨rfl, Cl_eq hC2.out ho.out⟩
    · rw [if_neg hk] at ho
      replace ho := Aside0.mk ho
      have hkb : (rk == 3) = false := beq_eq_false_iff_ne.2 hk
      have hkd : decide (rk = 3) = false := decide_eq_false hk
      clear hk
      go_wp2
      go_quiet (fail)
      go_upto_region 2 with (fail)
      obtain ⟨W1, hW1⟩ : ∃ W1, (W0.drewN nq).drew = W1 := ⟨_, rfl⟩
      refine start_ (n := 14) (S := fun w' => w'.cell? ⟨c, 6, none⟩ = some v ∧ w'.cell? ⟨b3, 1, none⟩ = some (.int .i64 y)) (ds := [13]) #[false, false, false, false, false, false, false, false, false, false, false, false, false, false] (by kernel_rfl) rfl rfl ⟨e6, e31⟩ (fun hHeld => ?_)
      rw [hW1] at hHeld ⊢
      have g1 := (show (W0.drewN nq).drew.heap[c]? = _ from h1.out)
      rw [hW1] at g1
      replace g1 := Aside0.mk g1
      have g2 := Aside0.mk (show Kd.R k62 62 W1 w0.heap.size (fun _ => True) v acts by rw [← hW1]; exact Kd.R_drew (Kd.R_drewN h2.out _))
      have g3 := Aside0.mk (show Below w0.heap.size w0 W1 by rw [← hW1]; exact below_drew1 (pw_below_drewN h3.out _))
      have gk := (show (W0.drewN nq).drew.heap[b3]? = _ from k3.out)
      rw [hW1] at gk
      replace gk := Aside0.mk gk
      clear hW1 e6 e31 e1 e2 e30 h1 h2 h3
      refine pure_ (i := 0) (N := some 10) (v := ?_) (a' := ?_) #[true, false, false, false, false, false, false, false, false, false, false, false, false, false] rfl rfl (by kernel_rfl) (fun _ _ _ h => h) (Or.inl ⟨by rfl, ?_⟩) ?_ ?_
      rotate_left
      · intro w'
        go_simp
        with_reducible rfl
      rotate_left
      · simp only [Act.put, List.setIfInBounds_toArray, List.set_cons_zero, List.set_cons_succ]
        rfl
      refine pure_ (i := 1) (N := some 11) (v := ?_) (a' := ?_) #[true, true, false, false, false, false, false, false, false, false, false, false, false, false] rfl rfl (by kernel_rfl) (fun _ _ _ h => h) (Or.inl ⟨by rfl, ?_⟩) ?_ ?_
      rotate_left
      · intro w'
        go_simp
        with_reducible rfl
      rotate_left
      · simp only [Act.put, List.setIfInBounds_toArray, List.set_cons_zero, List.set_cons_succ]
        rfl
      refine pure_ (i := 2) (N := some 12) (v := ?_) (a' := ?_) #[true, true, true, false, false, false, false, false, false, false, false, false, false, false] rfl rfl (by kernel_rfl) (fun _ _ _ h => h) (Or.inl ⟨by rfl, ?_⟩) ?_ ?_
      rotate_left
      · intro w'
        go_simp
        with_reducible rfl
      rotate_left
      · simp only [Act.put, List.setIfInBounds_toArray, List.set_cons_zero, List.set_cons_succ]
        rfl
      refine pure_ (i := 3) (N := some 13) (v := ?_) (a' := ?_) #[true, true, true, true, false, false, false, false, false, false, false, false, false, false] rfl rfl (by kernel_rfl) (fun _ _ _ h => h) (Or.inl ⟨by rfl, ?_⟩) ?_ ?_
      rotate_left
      · intro w'
        go_simp
        with_reducible rfl
      rotate_left
      · simp only [Act.put, List.setIfInBounds_toArray, List.set_cons_zero, List.set_cons_succ]
        rfl
      refine pure_ (i := 5) (N := some 15) (v := ?_) (a' := ?_) #[true, true, true, true, false, true, false, false, false, false, false, false, false, false] rfl rfl (by kernel_rfl) (fun _ _ _ h => h) (Or.inl ⟨by rfl, ?_⟩) ?_ ?_
      rotate_left
      · intro w'
        go_simp
        with_reducible rfl
      rotate_left
      · simp only [Act.put, List.setIfInBounds_toArray, List.set_cons_zero, List.set_cons_succ]
        rfl
      refine pure_ (i := 6) (N := some 16) (v := ?_) (a' := ?_) #[true, true, true, true, false, true, true, false, false, false, false, false, false, false] rfl rfl (by kernel_rfl) (fun _ _ _ h => h) (Or.inl ⟨by rfl, ?_⟩) ?_ ?_
      rotate_left
      · intro w'
        go_simp
        with_reducible rfl
      rotate_left
      · simp only [Act.put, List.setIfInBounds_toArray, List.set_cons_zero, List.set_cons_succ]
        rfl
      refine take_ (i := 4) (N := some 14) (v := ?_) (a' := ?_) #[true, true, true, true, true, true, true, false, false, false, false, false, false, false] rfl rfl (by kernel_rfl) (fun _ _ _ h => h) (Or.inl ⟨by rfl, ?_⟩) hHeld ?_ ?_
      rotate_left
      · rintro w' ⟨s0, s1⟩
        go_simp
        with_reducible rfl
      rotate_left
      · simp only [Act.put, List.setIfInBounds_toArray, List.set_cons_zero, List.set_cons_succ]
        rfl
      refine take_ (i := 7) (N := some 17) (v := ?_) (a' := ?_) #[true, true, true, true, true, true, true, true, false, false, false, false, false, false] rfl rfl (by kernel_rfl) (fun _ _ _ h => h) (Or.inl ⟨by rfl, ?_⟩) hHeld ?_ ?_
      rotate_left
      · rintro w' ⟨s0, s1⟩
        go_simp
        with_reducible rfl
      rotate_left
      · simp only [Act.put, List.setIfInBounds_toArray, List.set_cons_zero, List.set_cons_succ]
        rfl
      refine pure_ (i := 8) (N := some 18) (v := ?_) (a' := ?_) #[true, true, true, true, true, true, true, true, true, false, false, false, false, false] rfl rfl (by kernel_rfl) (fun _ _ _ h => h) (Or.inl ⟨by rfl, ?_⟩) ?_ ?_
      rotate_left
      · intro w'
        go_simp
        with_reducible rfl
      rotate_left
      · simp only [Act.put, List.setIfInBounds_toArray, List.set_cons_zero, List.set_cons_succ]
        rfl
      refine one_ (i := 9) (N := some 19) #[true, true, true, true, true, true, true, true, true, true, false, false, false, false] rfl rfl (by kernel_rfl) (by decide) (fun K hK => ?_)
      refine value_ (w1 := W1.alloc (.cells #[.int .i64 5, .int .i64 0, .string d, .int .i64 y] 62)) (v := .slice (some ⟨W1.heap.size, 0, none⟩) 1 1) (by rfl) rfl ?_ ?_
      · go_simp
      refine hK.out _ _ ⟨(blk_cell (blk_alloc g1.out _) 6).trans rfl, (blk_cell (blk_alloc gk.out _) 1).trans rfl⟩ (fun hHeld => ?_)
      clear hK K
      refine norm_ (a' := ?_) ?_ ?_
      rotate_left
      · simp only [Act.put, List.setIfInBounds_toArray, List.set_cons_zero, List.set_cons_succ]
        rfl
      refine one_ (i := 10) (N := some 20) #[true, true, true, true, true, true, true, true, true, true, true, false, false, false] rfl rfl (by kernel_rfl) (by decide) (fun K hK => ?_)
      refine Kd.R_append_step k62 (w0 := w0) w0.heap.size (by rfl) (.tmp 14) (.tmp 19) 48 62 (.agg #[(.int .i64 0), (.int .i64 0), (.string ⟨#[]⟩), (.int .i64 0)]) 40 rfl Tryd.underlying48 info62 rfl (by decide) (by omega) v acts ⟨5, 0, d, y⟩ [.int .i64 5, .int .i64 0, .string d, .int .i64 y] (fun _ => True) (fun _ => False) rfl rfl ?aP (fun _ hk => hk.elim) ?aF ?aO ?aB ?aS ?aL ?_
      (case aP => exact k62_mkM _ _ _ ⟨5, 0, d, y⟩)
      (case aB => exact g3.out)
      (case aF => exact fun _ _ => trivial)
      (case aO => exact g2.out)
      (case aS => exact below_size g3.out)
      (case aL => have := hl.out; omega)
      intro v1 W2 ho1 hb hg hat
      obtain ⟨Ao, Lo, co, hv1⟩ := R_shape ho1
      subst hv1
      obtain ⟨⟨e61, f61⟩, hC1⟩ := Cl_app g1.out g2.out h4.out ho1 hb hg
      replace hC1 := Aside0.mk hC1
      have eb1 : W2.cell? ⟨b3, 1, none⟩ = some (.int .i64 y) := (blk_cell (blk_grown gk.out hg (Kd.R_ne g2.out gk.out (by decide))) 1).trans rfl
      clear ho1 hb hg hat
      refine hK.out _ _ ⟨e61, eb1⟩ (fun hHeld => ?_)
      clear hK K
      refine norm_ (a' := ?_) ?_ ?_
      rotate_left
      · simp only [Act.put, List.setIfInBounds_toArray, List.set_cons_zero, List.set_cons_succ]
        rfl
      refine pure_ (i := 11) (N := some 21) (v := ?_) (a' := ?_) #[true, true, true, true, true, true, true, true, true, true, true, true, false, false] rfl rfl (by kernel_rfl) (fun _ _ _ h => h) (Or.inl ⟨by rfl, ?_⟩) ?_ ?_
      rotate_left
      · intro w'
        go_simp
        with_reducible rfl
      rotate_left
      · simp only [Act.put, List.setIfInBounds_toArray, List.set_cons_zero, List.set_cons_succ]
        rfl
      refine pure_ (i := 12) (N := some 22) (v := ?_) (a' := ?_) #[true, true, true, true, true, true, true, true, true, true, true, true, true, false] rfl rfl (by kernel_rfl) (fun _ _ _ h => h) (Or.inl ⟨by rfl, ?_⟩) ?_ ?_
      rotate_left
      · intro w'
        go_simp
        with_reducible rfl
      rotate_left
      · simp only [Act.put, List.setIfInBounds_toArray, List.set_cons_zero, List.set_cons_succ]
        rfl
      refine last_ (i := 13) (N := none) #[true, true, true, true, true, true, true, true, true, true, true, true, true, true] rfl rfl (by kernel_rfl) (by decide) (fun K hK => ?_)
      refine skip_ (w1 := ?_) (by rfl) rfl ?_ ?_
      rotate_left
      · go_simp
        rfl
      refine hK.out _ _ ?_
      clear hK K
      refine done_ (by kernel_rfl) ?_
      go_wp2_with (first | (go_at_call 87; refine (Enter_in _ _ _ _ _ _ _ _ _ _ _ _ hC1.out 2).mono ?_; rintro e W3 ⟨rfl, hC2⟩; replace hC2 := Aside0.mk hC2))
      exact bodyPost_end (v := .tuple #[]) (results_none rfl _ _ _) rfl ⟨rfl, Cl_eq hC2.out ho.out⟩
  · rw [if_pos hx] at ho
    replace ho := Aside0.mk ho
    have hxb : (x == 2) = false := beq_eq_false_iff_ne.2 hx
    have hxn : (x != 2) = true := bne_iff_ne.2 hx
    have hxd : decide (x = 2) = false := decide_eq_false hx
    clear hxy e31 e2 HR1
    go_wp2_with (first | (go_at_call 92; refine (Tone_in _ _ _ _ _ _ _ _ _ _ _ _ hC0.out (by have := hl.out; omega) 28).mono ?_; rintro e W1 ⟨rfl, hC1⟩; replace hC1 := Aside0.mk hC1))
    exact bodyPost_end (v := .tuple #[]) (results_none rfl _ _ _) rfl ⟨rfl, Cl_eq hC1.out ho.out⟩

/-- Whether the rule that was found is one of the rules; else there is no answer. -/
def inB (l : Rl) (x y : Int) : Bool := decide (x ≠ 2) || (decide (0 ≤ y) && decide (y < (l.length : Int)))
theorem inB_out {l : Rl} {x y : Int} (h : inB l x y = true) (hx : x = 2) : 0 ≤ y ∧ y < (l.length : Int) := by
  unfold inB at h
  rw [decide_eq_false (fun hh => hh hx), Bool.false_or, Bool.and_eq_true] at h
  exact ⟨of_decide_eq_true h.1, of_decide_eq_true h.2⟩
abbrev O3 := Int × ByteArray × Al
noncomputable def timF (k : Nat) (l : Rl) (d : ByteArray) : Option O3 :=
  if d.size = 0 then some (5, ⟨#[]⟩, [⟨3, 102, ⟨#[]⟩, 0⟩]) else (dialplan_Analyze.f k l d true).bind fun r => if inB l r.1 r.2.1 = true then some (decP l d r.1 r.2.1 []) else none
noncomputable def digF (k : Nat) (l : Rl) (d : ByteArray) (dg : Int) : Option O3 :=
  if d.size < 1000000 ∧ 48 ≤ dg ∧ dg ≤ 57 then
    (dialplan_Analyze.f k l (d ++ Utf8.encode dg) false).bind fun r =>
      if r.1 = 1 then some (1, d ++ Utf8.encode dg, (if d.size = 0 then [actK 2] else []) ++ [⟨9, 0, ⟨#[]⟩, 10⟩])
      else if inB l r.1 r.2.1 = true then some (decP l (d ++ Utf8.encode dg) r.1 r.2.1 ((if d.size = 0 then [actK 2] else []) ++ [actK 10])) else none
  else none
theorem empty_iff {d : ByteArray} (h : d.size = 0) : d = ⟨#[]⟩ := by
  obtain ⟨⟨l⟩⟩ := d
  have : l.length = 0 := h
  rw [List.eq_nil_of_length_eq_zero this]
theorem empty_flag {d : ByteArray} (h : ¬ d.size = 0) : d.toList.isEmpty = false := by
  rw [toList_data']
  cases hl : d.data.toList with
  | nil =>
    have := congrArg List.length hl
    rw [Array.length_toList] at this
    exact absurd this h
  | cons a m => rfl

set_option maxHeartbeats 4000000 in
set_option maxRecDepth 100000 in
theorem Timeout_in (k : Nat) (w0 : World) (c : Nat) (A0 : Option Addr) (c0 : Nat) (l0 : Rl) (hr0 : Kd.C k35 w0 A0 l0.length l0) (hc0 : l0.length ≤ c0) (kd cs dg : Int) (w : World) (st : Int) (d : ByteArray) (h : Cl w0 c A0 l0.length c0 kd cs dg w st d []) (o : O3) (ho : timF k l0 d = some o) :
    Calls Tryd.prog 69 #[.pointer (some ⟨c, 0, none⟩)] w fun e w' => e = .returned (.tuple #[]) ∧ Cl w0 c A0 l0.length c0 kd cs dg w' o.1 o.2.1 o.2.2 := by
  have hu26 := Tryd.underlying26
  have hu45 := Tryd.underlying45
  have hu99 := Tryd.underlying99
  have hC0 := Aside0.mk h
  have e1 : w.cell? ⟨c, 1, none⟩ = some (.string d) := by obtain ⟨v, h1, _⟩ := h; exact (blk_cell h1 1).trans rfl
  unfold timF at ho
  by_cases hd : d.size = 0
  · rw [if_pos hd] at ho
    obtain rfl := Option.some.inj ho
    have hse : d.toList.isEmpty = true := by rw [empty_iff hd]; kernel_rfl
    clear h ho hd
    go_enter Tryd.func69, Tryd.ntmps69
    go_wp2_with (first | (go_at_call 92; refine (Tone_in _ _ _ _ _ _ _ _ _ _ _ _ hC0.out (by decide) 102).mono ?_; rintro e W1 ⟨rfl, hC1⟩; replace hC1 := Aside0.mk hC1))
    exact bodyPost_ret (v := .tuple #[]) (results_none rfl _ _ _) rfl ⟨rfl, hC1.out⟩
  · rw [if_neg hd] at ho
    obtain ⟨⟨x, y, z⟩, hA, ho⟩ := Option.bind_eq_some_iff.1 ho
    simp only at ho
    have hse := empty_flag hd
    cases hi : inB l0 x y with
    | false => rw [hi, if_neg (by decide)] at ho; cases ho
    | true =>
      rw [hi, if_pos rfl] at ho
      have ho := Aside0.mk (Option.some.inj ho).symm
      replace hA := Aside0.mk hA
      replace hi := Aside0.mk hi
      have HR0 := Aside0.mk hr0
      have HC0 := Aside0.mk hc0
      clear h hd hr0 hc0
      go_enter Tryd.func69, Tryd.ntmps69
      go_wp2_with (first | (go_at_call 90; refine (Anal_in k w0 _ A0 _ l0 HR0.out HC0.out _ _ _ _ _ _ _ hC0.out true x y z hA.out).mono ?_; rintro e W1 ⟨rfl, hC1⟩; replace hC1 := Aside0.mk hC1) | (go_at_call 91; refine (Decide_in w0 _ A0 _ l0 HR0.out HC0.out _ _ _ _ _ _ _ hC1.out (by decide) x y (inB_out hi.out) o ho.out).mono ?_; rintro e W2 ⟨rfl, hC2⟩; replace hC2 := Aside0.mk hC2))
      exact bodyPost_end (v := .tuple #[]) (results_none rfl _ _ _) rfl ⟨rfl, hC2.out⟩

theorem Cl_drew {w0 : World} {c : Nat} {A0 : Option Addr} {n c0 : Nat} {kd cs dg : Int} {W : World} {st : Int} {d : ByteArray} {acts : Al} (h : Cl w0 c A0 n c0 kd cs dg W st d acts) : Cl w0 c A0 n c0 kd cs dg W.drew st d acts := Cl_below h (below_drew1 (Below.refl _ _))
theorem Cl_dig {w0 : World} {c : Nat} {A0 : Option Addr} {n c0 : Nat} {kd cs dg : Int} {W : World} {st : Int} {d : ByteArray} {acts : Al} (h : Cl w0 c A0 n c0 kd cs dg W st d acts) (d' : ByteArray) : Cl w0 c A0 n c0 kd cs dg (W.setCell ⟨c, 1, none⟩ (.string d')) st d' acts := by
  obtain ⟨v, h1, h2, h3, h4⟩ := h
  exact ⟨v, blk_put h1 1 (.string d') rfl, Kd.R_set h2 h1 (by decide) 1 (.string d'), below_set h3 h4, h4⟩

set_option maxHeartbeats 4000000 in
set_option maxRecDepth 100000 in
/-- What stands behind the first test of digit. -/
theorem Digit_tail (k : Nat) (w0 : World) (c : Nat) (A0 : Option Addr) (c0 : Nat) (l0 : Rl) (hr0 : Kd.C k35 w0 A0 l0.length l0) (hc0 : l0.length ≤ c0) (kd cs dg : Int) (W : World) (st : Int) (d : ByteArray) (acts : Al) (h : Cl w0 c A0 l0.length c0 kd cs dg W st d acts) : True := trivial

end Go.Proofs.YthknfclhkmehgaaDoor.Fn
