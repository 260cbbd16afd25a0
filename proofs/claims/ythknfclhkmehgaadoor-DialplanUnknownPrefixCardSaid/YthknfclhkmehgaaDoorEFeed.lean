/-
  dialplan.Feed: the walk (its closure by a contract of its own).
-/
import Derived.Test.YthknfclhkmehgaaDoorEDial
namespace Go.Proofs.YthknfclhkmehgaaDoor.Fn
open Go.RowKit Go.Maps Go.Proofs.YthknfclhkmehgaaDoorW.PrintWords Go.Proofs.YthknfclhkmehgaaDoorW.PrintLast Go.Proofs.YthknfclhkmehgaaDoorW.PrintMore
set_option linter.unusedVariables false
set_option linter.unusedSimpArgs false

/-- The loop, from u digits on; n more may be fed. -/
noncomputable def feedL (k : Nat) (t : List S77) (l : Rl) (s : ByteArray) : Nat → Nat → Option (Int × Int × Int)
  | 0, u => (overlap.f k t l (s.extract 0 u)).bind fun a => some ((u : Int), a.1, a.2)
  | n + 1, u => (overlap.f k t l (s.extract 0 u)).bind fun a => if a.1 = 1 then feedL k t l s n (u + 1) else some ((u : Int), a.1, a.2)
noncomputable def dialplan_Feed.f (k : Nat) (l : Rl) (s : ByteArray) : Option (Int × Int × Int × Int) := if ¬ s.size < 4611686018427387904 then none else
  (compile.f k l).bind fun C => if C.2 ≠ 0 then some (0, 0, 0, C.2) else (dialplan_numeric.f s).bind fun d => if d = false then some (0, 0, 0, 60) else
    (feedL k C.1 l s s.size 0).bind fun a => some (a.1, a.2.1, a.2.2, 0)
theorem feedL.mono (t : List S77) (l : Rl) (s : ByteArray) (k : Nat) : ∀ n u, LeO (feedL k t l s n u) (feedL (k + 1) t l s n u)
  | 0, _ => LeO.bind (overlap.mono _ _ _ k) (fun _ => LeO.refl _)
  | n + 1, u => by
    unfold feedL
    exact LeO.bind (overlap.mono _ _ _ k) (fun _ => LeO.ite (feedL.mono t l s k n _) (LeO.refl _))
theorem dialplan_Feed.mono : ∀ a0 a1 k, LeO (dialplan_Feed.f k a0 a1) (dialplan_Feed.f (k + 1) a0 a1) := fun a0 a1 k =>
  LeO.ite (LeO.refl _) (LeO.bind (compile.mono a0 k) (fun _ => LeO.ite (LeO.refl _) (LeO.bind (LeO.refl _) (fun _ => LeO.ite (LeO.refl _) (LeO.bind (feedL.mono _ _ _ k _ _) (fun _ => LeO.refl _))))))

set_option maxHeartbeats 4000000 in
set_option maxRecDepth 100000 in
theorem Done_in (k : Nat) (g b7 b3 b4 b5 : Nat) (A0 : Option Addr) (c0 : Nat) (l0 : Rl) (t : List S77) (s : ByteArray) (u : Nat) (st0 ru0 x y : Int) (w : World) (hr0 : Kd.C k35 w A0 l0.length l0) (hP : PlanAt w g A0 l0.length c0 t)
    (h7 : w.heap[b7]? = some (.cells #[.pointer (some ⟨g, 0, none⟩)] 68 (0, 0))) (h3 : w.heap[b3]? = some (.cells #[.string s] 9 (0, 0))) (h4 : w.heap[b4]? = some (.cells #[.int .i64 (u : Int)] 3 (0, 0))) (h5 : w.heap[b5]? = some (.cells #[.int .i64 st0, .int .i64 ru0] 26 (0, 0)))
    (hu : u ≤ s.size) (h : overlap.f k t l0 (s.extract 0 u) = some (x, y)) :
    Calls Tryd.prog 59 #[.pointer (some ⟨b7, 0, none⟩), .pointer (some ⟨b3, 0, none⟩), .pointer (some ⟨b4, 0, none⟩), .pointer (some ⟨b5, 0, none⟩)] w fun e w' => e = .returned (.bool (x != 1 || decide ((u : Int) = s.size))) ∧ ∃ W1, Below w.heap.size w W1 ∧ w' = (W1.setCell ⟨b5, 0, none⟩ (.int .i64 x)).setCell ⟨b5, 1, none⟩ (.int .i64 y) := by
  have hu55 := Tryd.underlying26
  have HR0 := Aside0.mk hr0
  replace hP := Aside0.mk hP
  replace h := Aside0.mk h
  have e7 : w.cell? ⟨b7, 0, none⟩ = some (.pointer (some ⟨g, 0, none⟩)) := (blk_cell h7 0).trans rfl
  have e3 : w.cell? ⟨b3, 0, none⟩ = some (.string s) := (blk_cell h3 0).trans rfl
  have e4 : w.cell? ⟨b4, 0, none⟩ = some (.int .i64 (u : Int)) := (blk_cell h4 0).trans rfl
  replace h7 := Aside0.mk h7
  replace h3 := Aside0.mk h3
  replace h4 := Aside0.mk h4
  replace h5 := Aside0.mk h5
  have n53 : b5 ≠ b3 := fun e => by have := h5.out; rw [e, h3.out] at this; simp at this
  have n54 : b5 ≠ b4 := fun e => by have := h5.out; rw [e, h4.out] at this; simp at this
  have n57 : b5 ≠ b7 := fun e => by have := h5.out; rw [e, h7.out] at this; simp at this
  have p0 : (0 : Int) ≤ (u : Int) := by omega
  have p1 : (u : Int) ≤ (s.size : Int) := by omega
  clear hr0 hu
  replace p0 := eq_true p0
  replace p1 := eq_true p1
  go_enter Tryd.func59, Tryd.ntmps59
  go_wp2
  go_region_held3 (fun W => W.cell? ⟨b7, 0, none⟩ = some (.pointer (some ⟨g, 0, none⟩)) ∧ W.cell? ⟨b3, 0, none⟩ = some (.string s) ∧ W.cell? ⟨b4, 0, none⟩ = some (.int .i64 (u : Int))) (go_keep) (first | (go_at_call 40; refine (overlap.calls k g A0 c0 l0 t (s.extract 0 u) x y _ (Kd.C_drew HR0.out) (PlanAt_below hP.out (below_drew (Below.refl _ _))) h.out).mono ?_; rintro e W1 ⟨rfl, hB1⟩; have hB1' : Below w.heap.size w W1 := below_step (below_drew (Below.refl _ _)) hB1; have g7 := Aside0.mk (blk_below h7.out hB1'); have g3 := Aside0.mk (blk_below h3.out hB1'); have g4 := Aside0.mk (blk_below h4.out hB1'); have g5 := Aside0.mk (blk_below h5.out hB1'); have e71 : W1.cell? ⟨b7, 0, none⟩ = some (.pointer (some ⟨g, 0, none⟩)) := (blk_cell g7.out 0).trans rfl; have e31 : W1.cell? ⟨b3, 0, none⟩ = some (.string s) := (blk_cell g3.out 0).trans rfl; have e41 : W1.cell? ⟨b4, 0, none⟩ = some (.int .i64 (u : Int)) := (blk_cell g4.out 0).trans rfl; have e50 : W1.cell? ⟨b5, 0, none⟩ = some (.int .i64 st0) := (blk_cell g5.out 0).trans rfl; have e51 : W1.cell? ⟨b5, 1, none⟩ = some (.int .i64 ru0) := (blk_cell g5.out 1).trans rfl; have f50 : W1.frozen? ⟨b5, 0, none⟩ = false := blk_frozen g5.out 0; have f51 : W1.frozen? ⟨b5, 1, none⟩ = false := blk_frozen g5.out 1; replace hB1 := Aside0.mk hB1; replace hB1' := Aside0.mk hB1'))
  obtain ⟨W2, hW2⟩ : ∃ W2, (W1.setCell ⟨b5, 0, none⟩ (.int .i64 x)).setCell ⟨b5, 1, none⟩ (.int .i64 y) = W2 := ⟨_, rfl⟩
  rw [hW2]
  have k5 : W2.heap[b5]? = some (.cells #[.int .i64 x, .int .i64 y] 26 (0, 0)) := by rw [← hW2]; exact blk_put (blk_put g5.out 0 (.int .i64 x) rfl) 1 (.int .i64 y) rfl
  have k3 : W2.heap[b3]? = some (.cells #[.string s] 9 (0, 0)) := by rw [← hW2]; exact blk_far (blk_far g3.out (fun e => n53 e.symm) _) (fun e => n53 e.symm) _
  have k4 : W2.heap[b4]? = some (.cells #[.int .i64 (u : Int)] 3 (0, 0)) := by rw [← hW2]; exact blk_far (blk_far g4.out (fun e => n54 e.symm) _) (fun e => n54 e.symm) _
  have j5 : W2.cell? ⟨b5, 0, none⟩ = some (.int .i64 x) := (blk_cell k5 0).trans rfl
  have j3 : W2.cell? ⟨b3, 0, none⟩ = some (.string s) := (blk_cell k3 0).trans rfl
  have j4 : W2.cell? ⟨b4, 0, none⟩ = some (.int .i64 (u : Int)) := (blk_cell k4 0).trans rfl
  clear k5 k3 k4 e71 e31 e41 e50 e51 f50 f51 e7 e3 e4 n53 n54 n57
  replace hW2 := Aside0.mk hW2
  cases c1 : decide (x = 1) with
  | false =>
    have hx : x ≠ 1 := of_decide_eq_false c1
    have hxb : (x != 1) = true := bne_iff_ne.2 hx
    have hxc : (x == 1) = false := beq_eq_false_iff_ne.2 hx
    go_wp2
    go_ret
    refine ⟨?_, W1, hB1'.out, hW2.out.symm⟩
    first | rfl | simp [hxb] | (simp [hx])
  | true =>
    have hx : x = 1 := of_decide_eq_true c1
    subst hx
    cases c2 : decide ((u : Int) = s.size) with
    | false =>
      have hq : ((u : Int) == (s.size : Int)) = false := beq_eq_false_iff_ne.2 (of_decide_eq_false c2)
      go_wp2
      go_ret
      refine ⟨?_, W1, hB1'.out, hW2.out.symm⟩
      first | rfl | simp [c2]
    | true =>
      have hq : ((u : Int) == (s.size : Int)) = true := beq_iff_eq.2 (of_decide_eq_true c2)
      go_wp2
      go_ret
      refine ⟨?_, W1, hB1'.out, hW2.out.symm⟩
      first | rfl | simp [c2]

theorem ptr_shape {v : Value} {ce : Int} {Q : Nat → Prop} (h1 : ce ≠ 0 → v = .pointer none) (h2 : ce = 0 → ∃ g, v = .pointer (some ⟨g, 0, none⟩) ∧ Q g) : ∃ q, v = .pointer q := by
  by_cases hz : ce = 0
  · obtain ⟨g, hg, _⟩ := h2 hz
    exact ⟨_, hg⟩
  · exact ⟨_, h1 hz⟩

theorem nodes_far {w : World} {A : Option Addr} {n : Nat} {xs : List S77} {b j ty : Nat} {v : Value} {cells : Array Value} (h : Kd.C k77 w A n xs) (hb : w.heap[b]? = some (.cells cells ty (0, 0))) (hs : cells.size < 11) : Kd.C k77 (w.setCell ⟨b, j, none⟩ v) A n xs := by
  refine ⟨h.1, h.2.1, fun hn => ?_⟩
  obtain ⟨ad, e, hc⟩ := h.2.2 hn
  have hadd : ∀ m, (ad.add m).block = ad.block := by
    intro m
    unfold Addr.add
    split <;> rfl
  have hne : b ≠ ad.block := by
    intro e1
    have hl : 0 < xs.length := by rw [h.1]; exact hn
    obtain ⟨c, hs0, hK, hcell⟩ := hc 0 _ (List.getElem?_eq_getElem hl)
    obtain rfl := k77_open hK
    have h10 := hcell 10 _ rfl
    have ha : ad.add (0 * 11 + 10) = ⟨b, ad.off + 10, none⟩ := by rw [e1]; rfl
    have h11 := h10.symm.trans ((congrArg w.cell? ha).trans (blk_cell hb (ad.off + 10)))
    rw [Array.getElem?_eq_none (by omega)] at h11
    cases h11
  refine ⟨ad, e, fun j p hj => ?_⟩
  obtain ⟨c, hs0, hK, hcell⟩ := hc j p hj
  refine ⟨c, hs0, ?_, fun i u hu => ?_⟩
  · obtain rfl := k77_open hK
    exact k77_mk _ p
  · rw [World.cell?_setCell_far _ _ _ _ (by rw [hadd]; exact hne)]
    exact hcell i u hu
theorem PlanAt_set {W : World} {g : Nat} {A0 : Option Addr} {n c0 : Nat} {t : List S77} {b j ty : Nat} {v : Value} {cells : Array Value} (h : PlanAt W g A0 n c0 t) (hb : W.heap[b]? = some (.cells cells ty (0, 0))) (hs : cells.size < 11) (hty : ty ≠ 106) : PlanAt (W.setCell ⟨b, j, none⟩ v) g A0 n c0 t := by
  obtain ⟨At, ct, h1, h2, h3⟩ := h
  refine ⟨At, ct, blk_far h1 (fun e => ?_) v, nodes_far h2 hb hs, h3⟩
  subst e
  rw [h1] at hb
  injection hb with hb
  injection hb with _ hb
  exact hty hb.symm

set_option maxHeartbeats 4000000 in
set_option maxRecDepth 100000 in
theorem dialplan_Feed.calls (k : Nat) (A0 : Option Addr) (c0 : Nat) (l0 : Rl) (a1 : ByteArray) (r1 r2 r3 r4 : Int) (w : World) (hr0 : Kd.C k35 w A0 l0.length l0) (hc0 : l0.length ≤ c0) (h : dialplan_Feed.f k l0 a1 = some (r1, r2, r3, r4)) :
    Calls Tryd.prog 33 #[.slice A0 l0.length c0, .string a1] w fun e w' => e = .returned (.tuple #[.int .i64 r1, .agg #[.int .i64 r2, .int .i64 r3], .int .i64 r4]) ∧ Below w.heap.size w w' := by
  have hu55 := Tryd.underlying26
  unfold dialplan_Feed.f at h
  split at h
  · cases h
  rename_i hsz
  have hsz := Aside0.mk (Decidable.not_not.1 hsz)
  obtain ⟨⟨t, ce⟩, hC, h⟩ := Option.bind_eq_some_iff.1 h
  simp only at h
  have HR0 := Aside0.mk hr0
  have HC0 := Aside0.mk hc0
  replace hC := Aside0.mk hC
  clear hr0 hc0
  have hmf : ∀ (fn : Fn) (first cap : Array Value) (w : World), (Instr.makeFunc fn first cap).run Tryd.prog w = .ok (.func fn first cap) w := fun _ _ _ _ => rfl
  go_enter Tryd.func33, Tryd.ntmps33
  go_upto_region 1 with (fail)
  obtain ⟨W0, hW0⟩ : ∃ W0, ((w.alloc (.cells #[.string a1] 9)).alloc (.cells #[.int .i64 0] 3)).alloc (.cells #[.int .i64 0, .int .i64 0] 26) = W0 := ⟨_, rfl⟩
  rw [hW0]
  obtain ⟨b5, hb5⟩ : ∃ b5, b5 = w.heap.size + 1 + 1 := ⟨_, rfl⟩
  rw [← hb5]
  obtain ⟨b4, hb4⟩ : ∃ b4, b4 = w.heap.size + 1 := ⟨_, rfl⟩
  rw [← hb4]
  obtain ⟨b3, hb3⟩ : ∃ b3, b3 = w.heap.size := ⟨_, rfl⟩
  have hb0 : Below w.heap.size w W0 := by rw [← hW0]; exact below_alloc (below_alloc (below_alloc (Below.refl _ _) _) _) _
  have a3 : W0.heap[b3]? = some (.cells #[.string a1] 9 (0, 0)) := by
    rw [← hW0, hb3]
    exact blk_alloc (blk_alloc (blk_new w _) _) _
  have a4 : W0.heap[b4]? = some (.cells #[.int .i64 0] 3 (0, 0)) := by
    have h1 := blk_new (w.alloc (.cells #[.string a1] 9)) (.cells #[.int .i64 0] 3)
    rw [World.size_alloc, ← hb4] at h1
    rw [← hW0]
    exact blk_alloc h1 _
  have a5 : W0.heap[b5]? = some (.cells #[.int .i64 0, .int .i64 0] 26 (0, 0)) := by
    have h1 := blk_new ((w.alloc (.cells #[.string a1] 9)).alloc (.cells #[.int .i64 0] 3)) (.cells #[.int .i64 0, .int .i64 0] 26)
    rw [World.size_alloc, World.size_alloc, ← hb5] at h1
    rw [← hW0]
    exact h1
  have g4 : w.heap.size ≤ b4 := by omega
  have g5 : w.heap.size ≤ b5 := by omega
  rw [show w.heap.size = b3 from hb3.symm]
  have ge3 : b3 = w.heap.size := hb3
  have n45 : b4 ≠ b5 := by omega
  replace g4 := Aside0.mk g4
  replace g5 := Aside0.mk g5
  replace ge3 := Aside0.mk ge3
  replace n45 := Aside0.mk n45
  clear hW0 hb5 hb4 hb3
  replace hb0 := Aside0.mk hb0
  replace a3 := Aside0.mk a3
  replace a4 := Aside0.mk a4
  replace a5 := Aside0.mk a5
  go_upto_region 2 with (first | (go_at_call 37; refine (Comp_in k A0 c0 l0 _ (Kd.C_below HR0.out hb0.out) HC0.out t ce hC.out).mono ?_; rintro e W1 ⟨pv, rfl, hB1, hpn, hpp⟩; have hshape : ∃ q, pv = .pointer q := ptr_shape hpn hpp; obtain ⟨pq, rfl⟩ := hshape; replace hB1 := Aside0.mk hB1; replace hpn := Aside0.mk hpn; replace hpp := Aside0.mk hpp))
  obtain ⟨W2, hW2⟩ : ∃ W2, W1.alloc (.cells #[.pointer pq] 68) = W2 := ⟨_, rfl⟩
  rw [hW2]
  obtain ⟨b7, hb7⟩ : ∃ b7, b7 = W1.heap.size := ⟨_, rfl⟩
  have hb12 : Below W1.heap.size W1 W2 := by rw [← hW2]; exact below_alloc (Below.refl _ _) _
  have a7 : W2.heap[b7]? = some (.cells #[.pointer pq] 68 (0, 0)) := by rw [← hW2, hb7]; exact blk_new _ _
  rw [← hb7]
  have hb1 := below_step hb0.out hB1.out
  have hb2 := below_step hb1 hb12
  have c3 := blk_below (blk_below a3.out hB1.out) hb12
  have c4 := blk_below (blk_below a4.out hB1.out) hb12
  have c5 := blk_below (blk_below a5.out hB1.out) hb12
  have hP2 : ce = 0 → ∃ g, pq = some ⟨g, 0, none⟩ ∧ PlanAt W2 g A0 l0.length c0 t := by
    intro hz
    obtain ⟨g, hg, _, hP⟩ := hpp.out hz
    injection hg with hg
    exact ⟨g, hg, PlanAt_below hP hb12⟩
  clear hW2 hb12 hB1 hpn hpp hb0 a3 a4 a5 hb7
  have e30 : W2.cell? ⟨b3, 0, none⟩ = some (.string a1) := (blk_cell c3 0).trans rfl
  have e40 : W2.cell? ⟨b4, 0, none⟩ = some (.int .i64 0) := (blk_cell c4 0).trans rfl
  have f40 : W2.frozen? ⟨b4, 0, none⟩ = false := blk_frozen c4 0
  have e50 : W2.cell? ⟨b5, 0, none⟩ = some (.int .i64 0) := (blk_cell c5 0).trans rfl
  have e51 : W2.cell? ⟨b5, 1, none⟩ = some (.int .i64 0) := (blk_cell c5 1).trans rfl
  have f50 : W2.frozen? ⟨b5, 0, none⟩ = false := blk_frozen c5 0
  have f51 : W2.frozen? ⟨b5, 1, none⟩ = false := blk_frozen c5 1
  have n45a := n45.out
  have n54a : b5 ≠ b4 := fun e => n45a e.symm
  replace hb2 := Aside0.mk hb2
  replace c3 := Aside0.mk c3
  replace c4 := Aside0.mk c4
  replace c5 := Aside0.mk c5
  replace a7 := Aside0.mk a7
  replace hP2 := Aside0.mk hP2
  have hfin : ∀ (W : World) (a : Act) (x y z q : Int), Below w.heap.size w W → W.cell? ⟨b4, 0, none⟩ = some (.int .i64 x) → W.cell? ⟨b5, 0, none⟩ = some (.int .i64 y) → W.cell? ⟨b5, 1, none⟩ = some (.int .i64 z) → a.tmps[4]? = some (.pointer (some ⟨b4, 0, none⟩)) → a.tmps[5]? = some (.pointer (some ⟨b5, 0, none⟩)) → a.tmps[6]? = some (.int .i64 q) → a.defers = [] →
      bodyPost Tryd.prog Tryd.f33 (fun e w' => e = .returned (.tuple #[.int .i64 x, .agg #[.int .i64 y, .int .i64 z], .int .i64 q]) ∧ Below w.heap.size w w') Exit.ret a W := by
    intro W a x y z q hB hc4 hc50 hc51 h4 h5 h6 hd
    refine bodyPost_ret (v := .tuple #[.int .i64 x, .agg #[.int .i64 y, .int .i64 z], .int .i64 q]) ?_ hd ⟨rfl, hB⟩
    obtain ⟨tmps, defers⟩ := a
    dsimp only at h4 h5 h6
    simp [results, Tryd.f33, go_sem, hc4, hc50, hc51, h4, h5, h6, hu55]
  have hend : ∀ (W : World) (a : Act) (x0 x y0 z0 y z q : Int), W.heap[b4]? = some (.cells #[.int .i64 x0] 3 (0, 0)) → W.heap[b5]? = some (.cells #[.int .i64 y0, .int .i64 z0] 26 (0, 0)) → Below w.heap.size w W → a.tmps[4]? = some (.pointer (some ⟨b4, 0, none⟩)) → a.tmps[5]? = some (.pointer (some ⟨b5, 0, none⟩)) → a.tmps[6]? = some (.int .i64 q) → a.defers = [] →
      bodyPost Tryd.prog Tryd.f33 (fun e w' => e = .returned (.tuple #[.int .i64 x, .agg #[.int .i64 y, .int .i64 z], .int .i64 q]) ∧ Below w.heap.size w w') Exit.ret a (((W.setCell ⟨b4, 0, none⟩ (.int .i64 x)).setCell ⟨b5, 0, none⟩ (.int .i64 y)).setCell ⟨b5, 1, none⟩ (.int .i64 z)).drew := by
    intro W a x0 x y0 z0 y z q h4 h5 hB t4 t5 t6 hd
    have m4 := blk_far (p := ⟨b5, 1, none⟩) (blk_far (p := ⟨b5, 0, none⟩) (blk_put h4 0 (.int .i64 x) rfl) n45a (.int .i64 y)) n45a (.int .i64 z)
    have m5 := blk_put (blk_put (blk_far (p := ⟨b4, 0, none⟩) h5 n54a (.int .i64 x)) 0 (.int .i64 y) rfl) 1 (.int .i64 z) rfl
    exact hfin _ a x y z q (below_drew (below_set (below_set (below_set hB g4.out) g5.out) g5.out)) ((blk_cell (blk_drew m4) 0).trans rfl) ((blk_cell (blk_drew m5) 0).trans rfl) ((blk_cell (blk_drew m5) 1).trans rfl) t4 t5 t6 hd
  replace hend := Aside0.mk hend
  clear hfin
  cases c1 : decide (ce = 0) with
  | false =>
    have c1' : ce ≠ 0 := of_decide_eq_false c1
    have c1b : (ce != 0) = true := bne_iff_ne.2 c1'
    have c1c : (ce == 0) = false := beq_eq_false_iff_ne.2 c1'
    rw [if_pos c1'] at h
    simp only [Option.some.injEq, Prod.mk.injEq] at h
    obtain ⟨rfl, rfl, rfl, rfl⟩ := h
    clear hP2 hC
    go_wp2
    go_region
    go_wp2
    exact hend.out _ _ _ _ _ _ _ _ _ c4.out c5.out hb2.out rfl rfl rfl rfl
  | true =>
    have c1' : ce = 0 := of_decide_eq_true c1
    subst c1'
    rw [if_neg (by decide)] at h
    obtain ⟨g, rfl, hP⟩ := hP2.out rfl
    replace hP := Aside0.mk hP
    clear hP2 hC c1
    obtain ⟨d, hd, h⟩ := Option.bind_eq_some_iff.1 h
    replace hd := Aside0.mk hd
    cases d with
    | false =>
      rw [if_pos rfl] at h
      simp only [Option.some.injEq, Prod.mk.injEq] at h
      obtain ⟨rfl, rfl, rfl, rfl⟩ := h
      go_upto_region 5 with (first | (go_at_call 38; refine (dialplan_numeric.calls a1 false _ hd.out).mono ?_; rintro e W3 ⟨rfl, hB3⟩; have d4 := blk_below c4.out hB3; have d5 := blk_below c5.out hB3; have hb3 := below_step hb2.out hB3; have e403 : W3.cell? ⟨b4, 0, none⟩ = some (.int .i64 0) := (blk_cell d4 0).trans rfl; have f403 : W3.frozen? ⟨b4, 0, none⟩ = false := blk_frozen d4 0; have e503 : W3.cell? ⟨b5, 0, none⟩ = some (.int .i64 0) := (blk_cell d5 0).trans rfl; have e513 : W3.cell? ⟨b5, 1, none⟩ = some (.int .i64 0) := (blk_cell d5 1).trans rfl; have f503 : W3.frozen? ⟨b5, 0, none⟩ = false := blk_frozen d5 0; have f513 : W3.frozen? ⟨b5, 1, none⟩ = false := blk_frozen d5 1; replace d4 := Aside0.mk d4; replace d5 := Aside0.mk d5; replace hb3 := Aside0.mk hb3; replace hB3 := Aside0.mk hB3))
      go_region
      go_wp2
      exact hend.out _ _ _ _ _ _ _ _ _ d4.out d5.out hb3.out rfl rfl rfl rfl
    | true =>
      rw [if_neg (by decide)] at h
      obtain ⟨⟨q1, q2, q3⟩, hL, h⟩ := Option.bind_eq_some_iff.1 h
      simp only [Option.some.injEq, Prod.mk.injEq] at h
      obtain ⟨rfl, rfl, rfl, rfl⟩ := h
      replace hL := Aside0.mk hL
      clear e40 f40 e50 e51 f50 f51
      go_wp2_with (first | (go_at_call 38; refine (dialplan_numeric.calls a1 true _ hd.out).mono ?_; rintro e W3 ⟨rfl, hB3⟩; have d3 := blk_below c3.out hB3; have d4 := blk_below c4.out hB3; have d5 := blk_below c5.out hB3; have d7 := blk_below a7.out hB3; have hb3 := below_step hb2.out hB3; have hP3 := PlanAt_below hP.out hB3; replace d3 := Aside0.mk d3; replace d4 := Aside0.mk d4; replace d5 := Aside0.mk d5; replace d7 := Aside0.mk d7; replace hb3 := Aside0.mk hb3; replace hP3 := Aside0.mk hP3; clear hB3))
      clear e30 hb2 c3 c4 c5 a7 hP hd
      go_loopg [] a1.size (fun kq w' => ∃ (u : Nat) (st ru : Int), Aside0 (u + kq = a1.size) ∧ Aside0 (feedL k t l0 a1 kq u = some (q1, q2, q3)) ∧ Aside0 (w'.heap[b3]? = some (.cells #[.string a1] 9 (0, 0))) ∧ Aside0 (w'.heap[b4]? = some (.cells #[.int .i64 (u : Int)] 3 (0, 0))) ∧ Aside0 (w'.heap[b5]? = some (.cells #[.int .i64 st, .int .i64 ru] 26 (0, 0))) ∧ Aside0 (w'.heap[b7]? = some (.cells #[.pointer (some ⟨g, 0, none⟩)] 68 (0, 0))) ∧ Aside0 (PlanAt w' g A0 l0.length c0 t) ∧ Aside0 (Below w.heap.size w w'))
      case atStart => exact ⟨0, 0, 0, ⟨by omega⟩, hL, d3, d4, d5, d7, hP3, hb3⟩
      case round =>
        clear hL d3 d4 d5 d7 hP3 hb3 hb1
        obtain ⟨u, st, ru, hu, hF, d3, d4, d5, d7, hP3, hb3⟩ := hrel
        have n53 : b5 ≠ b3 := fun e => by have := d5.out; rw [e, d3.out] at this; simp at this
        have n57 : b5 ≠ b7 := fun e => by have := d5.out; rw [e, d7.out] at this; simp at this
        have n43 : b4 ≠ b3 := fun e => by have := d4.out; rw [e, d3.out] at this; simp at this
        have n47 : b4 ≠ b7 := fun e => by have := d4.out; rw [e, d7.out] at this; simp at this
        have hkeep : ∀ (x y : Int) (W4 : World), Below wr.heap.size wr W4 → Aside0 (((W4.setCell ⟨b5, 0, none⟩ (.int .i64 x)).setCell ⟨b5, 1, none⟩ (.int .i64 y)).heap[b3]? = some (.cells #[.string a1] 9 (0, 0))) ∧ Aside0 (((W4.setCell ⟨b5, 0, none⟩ (.int .i64 x)).setCell ⟨b5, 1, none⟩ (.int .i64 y)).heap[b4]? = some (.cells #[.int .i64 (u : Int)] 3 (0, 0))) ∧ Aside0 (((W4.setCell ⟨b5, 0, none⟩ (.int .i64 x)).setCell ⟨b5, 1, none⟩ (.int .i64 y)).heap[b5]? = some (.cells #[.int .i64 x, .int .i64 y] 26 (0, 0))) ∧ Aside0 (((W4.setCell ⟨b5, 0, none⟩ (.int .i64 x)).setCell ⟨b5, 1, none⟩ (.int .i64 y)).heap[b7]? = some (.cells #[.pointer (some ⟨g, 0, none⟩)] 68 (0, 0))) ∧ Aside0 (PlanAt ((W4.setCell ⟨b5, 0, none⟩ (.int .i64 x)).setCell ⟨b5, 1, none⟩ (.int .i64 y)) g A0 l0.length c0 t) ∧ Aside0 (Below w.heap.size w ((W4.setCell ⟨b5, 0, none⟩ (.int .i64 x)).setCell ⟨b5, 1, none⟩ (.int .i64 y))) := by
          intro x y W4 hB4
          have k3 := blk_below d3.out hB4
          have k4 := blk_below d4.out hB4
          have k5 := blk_below d5.out hB4
          have k7 := blk_below d7.out hB4
          have kP := PlanAt_below hP3.out hB4
          have kB := below_step hb3.out hB4
          have k50 := blk_put k5 0 (.int .i64 x) rfl
          exact ⟨⟨blk_far (blk_far k3 (fun e => n53 e.symm) _) (fun e => n53 e.symm) _⟩, ⟨blk_far (blk_far k4 n45a _) n45a _⟩, ⟨blk_put k50 1 (.int .i64 y) rfl⟩, ⟨blk_far (blk_far k7 (fun e => n57 e.symm) _) (fun e => n57 e.symm) _⟩, ⟨PlanAt_set (PlanAt_set kP k5 (by simp) (by decide)) k50 (by simp) (by decide)⟩, ⟨below_set (below_set kB g5.out) g5.out⟩⟩
        replace hkeep := Aside0.mk hkeep
        replace n53 := Aside0.mk n53
        replace n57 := Aside0.mk n57
        cases gk with
        | zero =>
          have hF2 := hF.out
          unfold feedL at hF2
          obtain ⟨⟨x, y⟩, hO, hF2⟩ := Option.bind_eq_some_iff.1 hF2
          simp only [Option.some.injEq, Prod.mk.injEq] at hF2
          obtain ⟨rfl, rfl, rfl⟩ := hF2
          have hus : u ≤ a1.size := by have := hu.out; omega
          have hbt : (x != 1 || decide ((u : Int) = (a1.size : Int))) = true := by
            rw [show (u : Int) = (a1.size : Int) by have := hu.out; omega, decide_eq_true rfl, Bool.or_true]
          replace hus := Aside0.mk hus
          replace hO := Aside0.mk hO
          go_wp2_with (first | (go_at_call 59; refine (Done_in k g b7 b3 b4 b5 A0 c0 l0 t a1 u st ru x y _ (Kd.C_below HR0.out hb3.out) hP3.out d7.out d3.out d4.out d5.out hus.out hO.out).mono ?_; rintro e W5 ⟨rfl, W4, hB4, hW5⟩; rw [hbt]; obtain ⟨j3, j4, j5, j7, jP, jB⟩ := hkeep.out x y W4 hB4; rw [← hW5] at j3 j4 j5 j7 jP jB; clear hW5 hB4; have e40 : W5.cell? ⟨b4, 0, none⟩ = some (.int .i64 (u : Int)) := (blk_cell j4.out 0).trans rfl; have f40 : W5.frozen? ⟨b4, 0, none⟩ = false := blk_frozen j4.out 0; have e50 : W5.cell? ⟨b5, 0, none⟩ = some (.int .i64 x) := (blk_cell j5.out 0).trans rfl; have e51 : W5.cell? ⟨b5, 1, none⟩ = some (.int .i64 y) := (blk_cell j5.out 1).trans rfl; have f50 : W5.frozen? ⟨b5, 0, none⟩ = false := blk_frozen j5.out 0; have f51 : W5.frozen? ⟨b5, 1, none⟩ = false := blk_frozen j5.out 1))
          go_region
          go_wp2
          exact hend.out _ _ _ _ _ _ _ _ _ j4.out j5.out jB.out rfl rfl rfl rfl
        | succ k1 =>
          have hF2 := hF.out
          unfold feedL at hF2
          obtain ⟨⟨x, y⟩, hO, hF2⟩ := Option.bind_eq_some_iff.1 hF2
          have hus : u ≤ a1.size := by have := hu.out; omega
          have hne : decide ((u : Int) = (a1.size : Int)) = false := decide_eq_false (by have := hu.out; omega)
          replace hus := Aside0.mk hus
          replace hO := Aside0.mk hO
          dsimp only at hF2
          cases cx : decide (x = 1) with
          | false =>
            have hx : x ≠ 1 := of_decide_eq_false cx
            rw [if_neg hx] at hF2
            simp only [Option.some.injEq, Prod.mk.injEq] at hF2
            obtain ⟨rfl, rfl, rfl⟩ := hF2
            have hbt : (x != 1 || decide ((u : Int) = (a1.size : Int))) = true := by
              rw [bne_iff_ne.2 hx, Bool.true_or]
            clear hne
            go_wp2_with (first | (go_at_call 59; refine (Done_in k g b7 b3 b4 b5 A0 c0 l0 t a1 u st ru x y _ (Kd.C_below HR0.out hb3.out) hP3.out d7.out d3.out d4.out d5.out hus.out hO.out).mono ?_; rintro e W5 ⟨rfl, W4, hB4, hW5⟩; rw [hbt]; obtain ⟨j3, j4, j5, j7, jP, jB⟩ := hkeep.out x y W4 hB4; rw [← hW5] at j3 j4 j5 j7 jP jB; clear hW5 hB4; have e40 : W5.cell? ⟨b4, 0, none⟩ = some (.int .i64 (u : Int)) := (blk_cell j4.out 0).trans rfl; have f40 : W5.frozen? ⟨b4, 0, none⟩ = false := blk_frozen j4.out 0; have e50 : W5.cell? ⟨b5, 0, none⟩ = some (.int .i64 x) := (blk_cell j5.out 0).trans rfl; have e51 : W5.cell? ⟨b5, 1, none⟩ = some (.int .i64 y) := (blk_cell j5.out 1).trans rfl; have f50 : W5.frozen? ⟨b5, 0, none⟩ = false := blk_frozen j5.out 0; have f51 : W5.frozen? ⟨b5, 1, none⟩ = false := blk_frozen j5.out 1))
            go_region
            go_wp2
            exact hend.out _ _ _ _ _ _ _ _ _ j4.out j5.out jB.out rfl rfl rfl rfl
          | true =>
            have hx : x = 1 := of_decide_eq_true cx
            subst hx
            rw [if_pos rfl] at hF2
            have hbt : ((1 : Int) != 1 || decide ((u : Int) = (a1.size : Int))) = false := by
              rw [hne]; rfl
            have hw : wrap64 ((u : Int) + 1) = (u : Int) + 1 := w64c (by omega) (by have := hu.out; have := hsz.out; omega)
            clear hne
            replace hF2 := Aside0.mk hF2
            go_wp2_with (first | (go_at_call 59; refine (Done_in k g b7 b3 b4 b5 A0 c0 l0 t a1 u st ru 1 y _ (Kd.C_below HR0.out hb3.out) hP3.out d7.out d3.out d4.out d5.out hus.out hO.out).mono ?_; rintro e W5 ⟨rfl, W4, hB4, hW5⟩; rw [hbt]; obtain ⟨j3, j4, j5, j7, jP, jB⟩ := hkeep.out 1 y W4 hB4; rw [← hW5] at j3 j4 j5 j7 jP jB; clear hW5 hB4; have e40 : W5.cell? ⟨b4, 0, none⟩ = some (.int .i64 (u : Int)) := (blk_cell j4.out 0).trans rfl; have f40 : W5.frozen? ⟨b4, 0, none⟩ = false := blk_frozen j4.out 0))
            go_roundg k1
            case measure => omega
            case rel =>
              have hc : ((u + 1 : Nat) : Int) = (u : Int) + 1 := by omega
              have m4 := j4.out
              refine ⟨u + 1, 1, y, ⟨by have := hu.out; omega⟩, hF2, ⟨blk_far j3.out (fun e => n43 e.symm) _⟩, ⟨?_⟩, ⟨blk_far j5.out n54a _⟩, ⟨blk_far j7.out (fun e => n47 e.symm) _⟩, ⟨PlanAt_set jP.out m4 (by simp) (by decide)⟩, ⟨below_set jB.out g4.out⟩⟩
              rw [hc]
              exact blk_put m4 0 _ rfl

end Go.Proofs.YthknfclhkmehgaaDoor.Fn
