/-
  origin.Dial: the walk.
-/
import Derived.Test.YthknfclhkmehgaaDoorEStep
import Derived.Lib.ConvBytes
import Derived.Deep.RegionHeld3
namespace Go.Proofs.YthknfclhkmehgaaDoor.Fn
open Go.RowKit Go.Maps Go.Proofs.YthknfclhkmehgaaDoorW.PrintWords Go.Proofs.YthknfclhkmehgaaDoorW.PrintLast Go.Proofs.YthknfclhkmehgaaDoorW.PrintMore
set_option linter.unusedVariables false
set_option linter.unusedSimpArgs false

abbrev O4 := Int × ByteArray × Al × Int
def evL (s : ByteArray) : List S47 := ⟨1, 0, 0⟩ :: s.data.toList.map fun b => ⟨3, 0, ((b.toNat : Nat) : Int)⟩
noncomputable def dialL (k : Nat) (l : Rl) : List S47 → Int → ByteArray → Al → Option O4
  | [], st, d, acts => some (st, d, acts, 0)
  | e :: es, st, d, acts => (origin_Step.f k st d l e.f0 e.f1 e.f2).bind fun r => if r.2.2.2 ≠ 0 then some (0, ⟨#[]⟩, [], r.2.2.2) else if acts.length + r.2.2.1.length < 1000000 then dialL k l es r.1 r.2.1 (acts ++ r.2.2.1) else none
noncomputable def origin_Dial.f (k : Nat) (l : Rl) (s : ByteArray) : Option O4 := if s.size < 1000000 then dialL k l (evL s) 0 ⟨#[]⟩ [] else none
theorem dialL.mono (l : Rl) (k : Nat) : ∀ es st d acts, LeO (dialL k l es st d acts) (dialL (k + 1) l es st d acts)
  | [], _, _, _ => LeO.refl _
  | e :: es, st, d, acts => LeO.bind (origin_Step.mono _ _ _ _ _ _ k) (fun r => LeO.ite (LeO.refl _) (LeO.ite (dialL.mono l k es _ _ _) (LeO.refl _)))
theorem origin_Dial.mono : ∀ a0 a1 k, LeO (origin_Dial.f k a0 a1) (origin_Dial.f (k + 1) a0 a1) := fun a0 a1 k => LeO.ite (dialL.mono _ k _ _ _ _) (LeO.refl _)

theorem infoEv : (Tryd.prog.info? 47).map (fun i => (i.zero, i.size, i.bytes)) = some (some (.agg #[(.int .i64 0), (.int .i64 0), (.int .u8 0)]), 3, 24) := by kernel_rfl
/-- The string's bytes lie in block bb. -/
def ByA (W : World) (bb : Nat) (s : ByteArray) : Prop := bb < W.heap.size ∧ ∀ j, j < s.size → W.cell? ⟨bb, j, none⟩ = some (.int .u8 (((s.data.toList.getD j 0).toNat : Nat) : Int))
theorem ByA_grown {W w1 : World} {bb : Nat} {s : ByteArray} {row : Option Nat} (h : ByA W bb s) (hg : W.grownBy w1 row) (hne : some bb ≠ row) : ByA w1 bb s := by
  have hb := hg.block bb h.1 hne
  refine ⟨?_, fun j hj => (World.cell?_of_block (a := ⟨bb, j, none⟩) hb).trans (h.2 j hj)⟩
  have h1 := h.1
  rcases Nat.lt_or_ge bb w1.heap.size with h2 | h2
  · exact h2
  · rw [Array.getElem?_eq_none h2, Array.getElem?_eq_getElem h1] at hb
    cases hb
theorem bytes_below (W : World) (e : TypeId) (s : ByteArray) : Below W.heap.size W (Lib.bytesWorld W e s) := ⟨rfl, rfl, rfl, by rw [Lib.bytesWorld_size]; omega, fun k hk => Lib.bytesWorld_at_old W e s k hk⟩
theorem conv_run (W : World) (s : ByteArray) : ∃ cap WB, (convert 9 78 (.string s)).run Tryd.prog W = .ok (.slice (some ⟨W.heap.size, 0, none⟩) s.size cap) WB ∧ ByA WB W.heap.size s ∧ Below W.heap.size W WB :=
  ⟨_, _, Lib.run_convert_string_bytes W _ _ _ s Tryd.underlying9 Tryd.underlying78 Tryd.underlying5, ⟨by rw [Lib.bytesWorld_size]; omega, fun j hj => Lib.bytesWorld_cell W _ s j hj⟩, bytes_below _ _ _⟩
theorem sizeL (s : ByteArray) : s.data.toList.length = s.size := Array.length_toList
theorem evL_length (s : ByteArray) : (evL s).length = s.size + 1 := by
  unfold evL
  rw [List.length_cons, List.length_map, sizeL]
theorem evL_take (s : ByteArray) {x : Nat} (hx : x < s.size) : (evL s).take (x + 1) ++ [⟨3, 0, (((s.data.toList.getD x 0).toNat : Nat) : Int)⟩] = (evL s).take (x + 1 + 1) := by
  have hl : x < s.data.toList.length := by rw [sizeL]; omega
  unfold evL
  rw [List.take_succ_cons, List.take_succ_cons, List.cons_append, List.take_succ_eq_append_getElem (by rw [List.length_map]; exact hl), List.getElem_map, List.getD_eq_getElem?_getD, List.getElem?_eq_getElem hl]
  rfl
theorem R_type {α : Type} {k : Kd α} {e : Nat} {W : World} {b : Nat} {ok : Nat → Prop} {v : Value} {xs : List α} (h : Kd.R k e W b ok v xs) (hE : k.E = []) {g : Nat} (hg : v.ownBlock = some g) : ∃ cs, W.heap[g]? = some (.cells cs e (0, 0)) := by
  obtain ⟨_, _, _, q, hq, cs, hc⟩ := (Kd.R_bound h).1 g hg
  rw [hE, List.mem_singleton] at hq
  subst hq
  exact ⟨cs, hc⟩
theorem dial_end {Post : Ending → World → Prop} {W : World} {a : Act} {b4 : Nat} {s : Int} {dd : ByteArray} {v : Value} {e4 : Int} (h : W.heap[b4]? = some (.cells #[.int .i64 s, .string dd] 45 (0, 0))) (h6 : a.tmps[4]? = some (.pointer (some ⟨b4, 0, none⟩))) (h7 : a.tmps[5]? = some v) (h8 : a.tmps[6]? = some (.int .i64 e4)) (hd : a.defers = []) (hP : Post (.returned (.tuple #[.agg #[.int .i64 s, .string dd], v, .int .i64 e4])) W) :
    bodyPost Tryd.prog Tryd.f29 Post Exit.ret a W := by
  have hu45 := Tryd.underlying45
  have hc0 : W.cell? ⟨b4, 0, none⟩ = some (.int .i64 s) := (blk_cell h 0).trans rfl
  have hc1 : W.cell? ⟨b4, 1, none⟩ = some (.string dd) := (blk_cell h 1).trans rfl
  refine bodyPost_ret (v := .tuple #[.agg #[.int .i64 s, .string dd], v, .int .i64 e4]) ?_ hd hP
  obtain ⟨tmps, defers⟩ := a
  dsimp only at h6 h7 h8
  simp [results, Tryd.f29, go_sem, hc0, hc1, h6, h7, h8, hu45]

set_option maxHeartbeats 8000000 in
set_option maxRecDepth 100000 in
theorem origin_Dial.calls (k : Nat) (A0 : Option Addr) (c0 : Nat) (l0 : Rl) (a1 : ByteArray) (r1 : Int) (r2 : ByteArray) (r3 : Al) (r4 : Int) (w : World) (hr0 : Kd.C k35 w A0 l0.length l0) (hc0 : l0.length ≤ c0) (h : origin_Dial.f k l0 a1 = some (r1, r2, r3, r4)) :
    Calls Tryd.prog 29 #[.slice A0 l0.length c0, .string a1] w fun e w' => ∃ v2_, e = .returned (.tuple #[.agg #[.int .i64 r1, .string r2], v2_, .int .i64 r4]) ∧ Kd.R k62 62 w' w.heap.size (fun _ => True) v2_ r3 ∧ Below w.heap.size w w' := by
  have hu45 := Tryd.underlying45
  have hu47 := Tryd.underlying47
  have HR0 := Aside0.mk hr0
  have HC0 := Aside0.mk hc0
  unfold origin_Dial.f at h
  by_cases hs : a1.size < 1000000
  rotate_left
  · rw [if_neg hs] at h
    cases h
  rw [if_pos hs] at h
  replace hs := Aside0.mk hs
  replace h := Aside0.mk h
  clear hr0 hc0
  go_enter Tryd.func29, Tryd.ntmps29
  go_upto_region 1 with (fail)
  obtain ⟨W0, hW0⟩ : ∃ W0, w.alloc (.cells #[.int .i64 0, .string ⟨#[]⟩] 45) = W0 := ⟨_, rfl⟩
  rw [hW0]
  have k4 := Aside0.mk (show W0.heap[w.heap.size]? = some (.cells #[.int .i64 0, .string ⟨#[]⟩] 45 (0, 0)) by rw [← hW0]; exact blk_new _ _)
  have hB := Aside0.mk (show Below w.heap.size w W0 by rw [← hW0]; exact below_alloc (Below.refl _ _) _)
  obtain ⟨b4, hb4⟩ : ∃ b4, w.heap.size = b4 := ⟨_, rfl⟩
  rw [hb4] at k4 ⊢
  replace hb4 := Aside0.mk hb4
  clear hW0
  go_upto_region 2 with (first | ((with_reducible refine gate_dst (N := 16) rfl ?_); refine Kd.R_lit k47 _ 47 ?hg (N := 16) ?hd (xs := ([⟨1, 0, 0⟩] : List S47)) (inner := [.int .i64 1, .int .i64 0, .int .u8 0]) (ok := fun _ => True) (okp := fun _ => True) ?hr ?hp (fun _ hk => hk) trivial (Below.refl _ _) (Nat.le_refl _) (by simp) ?_; (case hd => rfl); (case hg => rfl); (case hr => first | (go_simp; done) | (go_simp; rfl)); (case hp => exact (Reps.c3 (show Kd.M k47 _ _ _ (⟨1, 0, 0⟩ : S47) [.int .i64 1, .int .i64 0, .int .u8 0] from k47_mkM _ _ _ _) (Reps.none _ _))); intro v16 W1 ho1 hb1 hg_ hnew_; clear hg_ hnew_; replace ho1 := Aside0.mk (Kd.R_lower ho1 (below_size hB.out)); replace k4 := Aside0.mk (blk_below k4.out hb1); replace hB := Aside0.mk (below_step hB.out hb1); clear hb1))
  obtain ⟨Ae, Le, ce, hve⟩ := R_shape ho1.out
  subst hve
  obtain ⟨cap, WB, hconv, hBy, hBB⟩ := conv_run W1 a1
  obtain ⟨bb, hbb⟩ : ∃ bb, W1.heap.size = bb := ⟨_, rfl⟩
  have hE := Aside0.mk (Kd.R_below (Kd.R_mono (Kd.R_bound ho1.out) (fun k hk => (Nat.ne_of_lt hk.2.2.1 : k ≠ W1.heap.size))) hBB)
  replace k4 := Aside0.mk (blk_below k4.out hBB)
  replace hB := Aside0.mk (below_step hB.out hBB)
  rw [hbb] at hconv hBy hE
  obtain ⟨ad, had⟩ : ∃ ad, (⟨bb, 0, none⟩ : Addr) = ad := ⟨_, rfl⟩
  rw [had] at hconv
  replace hBy := Aside0.mk hBy
  replace had := Aside0.mk had
  clear ho1 hBB hbb
  go_wp2
  go_loopg [7, 20] a1.size (fun kq v7 v20 w' => ∃ x : Int, v20 = .int .i64 x ∧ (∃ Ao Lo co, v7 = .slice Ao Lo co) ∧ Aside0 (0 ≤ x ∧ x + kq = a1.size) ∧ Aside0 (Kd.R k47 47 w' w.heap.size (fun k => k ≠ bb) v7 ((evL a1).take (x.toNat + 1))) ∧ Aside0 (ByA w' bb a1) ∧ Aside0 (w'.heap[b4]? = some (.cells #[.int .i64 0, .string ⟨#[]⟩] 45 (0, 0))) ∧ Aside0 (Below w.heap.size w w'))
  case atStart => exact ⟨0, rfl, ⟨_, _, _, rfl⟩, ⟨by omega⟩, ⟨hE.out⟩, hBy, k4, hB⟩
  case round =>
    clear hE hBy k4 hB hconv
    obtain ⟨x, rfl, ⟨Ao, Lo, co, rfl⟩, hx, hE, hBy, k4, hB⟩ := hrel
    cases gk with
    | succ k1 =>
      have c3 : x < (a1.size : Int) := by have := hx.out; omega
      have c3b0 : decide (x < (a1.size : Int)) = true := decide_eq_true c3
      have p0 : 0 ≤ x := hx.out.1
      have hil : x.toNat < a1.size := by omega
      have ek : wr.cell? (ad.add x.toNat) = some (.int .u8 (((a1.data.toList.getD x.toNat 0).toNat : Nat) : Int)) := by rw [← had.out, addr_zero]; exact hBy.out.2 _ hil
      have hnext := Aside0.mk (evL_take a1 hil)
      obtain ⟨q, hq⟩ : ∃ q : Int, (((a1.data.toList.getD x.toNat 0).toNat : Nat) : Int) = q := ⟨_, rfl⟩
      rw [hq] at ek hnext
      have hw : wrap64 (x + 1) = x + 1 := by have := hs.out; unfold wrap64; omega
      have hlen := Aside0.mk (show ((evL a1).take (x.toNat + 1)).length < 2000000 by rw [List.length_take, evL_length]; have := hs.out; omega)
      replace hw := Aside0.mk hw
      replace hil := Aside0.mk hil
      replace p0 := eq_true p0
      replace c3 := eq_true c3
      clear hq
      go_wp2_with (first | ((with_reducible refine gate_builtin (b := .append) (xs := #[.tmp 24, .tmp 27]) rfl ?_); at_builtin; refine Kd.R_append k47 (w0 := w) w.heap.size rfl (.tmp 24) (.tmp 27) 55 47 (.agg #[(.int .i64 0), (.int .i64 0), (.int .u8 0)]) 24 rfl Tryd.underlying55 infoEv rfl (by decide) (by omega) (.slice Ao Lo co) ((evL a1).take (x.toNat + 1)) ⟨3, 0, q⟩ [.int .i64 3, .int .i64 0, .int .u8 q] (fun k => k ≠ bb) (fun _ => False) rfl rfl ?aP (fun _ hk => hk.elim) ?aF ?aO ?aB ?aS ?aL ?_; (case aP => exact k47_mkM _ _ _ ⟨3, 0, q⟩); (case aB => exact hB.out); (case aF => exact fun k hk => (Nat.ne_of_gt (Nat.lt_of_lt_of_le hBy.out.1 hk))); (case aO => exact hE.out); (case aS => exact below_size hB.out); (case aL => have := hlen.out; omega); intro v1 w1 ho1 hb hg hat; have hBy1 := Aside0.mk (ByA_grown hBy.out hg (fun e => hE.out.1 bb e.symm rfl)); have k41 := Aside0.mk (blk_grown k4.out hg (Kd.R_ne hE.out k4.out (by decide))); obtain ⟨A2, L2, c2, hv1⟩ := R_shape ho1; subst hv1; replace ho1 := Aside0.mk ho1; replace hb := Aside0.mk hb; clear hg hat))
      go_roundg k1
      case measure => omega
      case rel =>
        refine ⟨x + 1, by rw [hw.out], ⟨_, _, _, rfl⟩, ⟨by have := hx.out; omega⟩, ⟨?_⟩, hBy1, k41, hb⟩
        rw [show (x + 1).toNat = x.toNat + 1 by have := hx.out; omega, ← hnext.out]
        exact ho1.out
    | zero =>
      have c3b0 : decide (x < (a1.size : Int)) = false := decide_eq_false (by have := hx.out; omega)
      have hE2 : Kd.R k47 47 wr w.heap.size (fun _ => True) (.slice Ao Lo co) (evL a1) := by
        have h1 := hE.out
        rw [List.take_of_length_le (by rw [evL_length]; have := hx.out; omega)] at h1
        exact Kd.R_mono h1 (fun _ _ => trivial)
      obtain ⟨A9, c9, e9⟩ := Kd.R_slice hE2
      rw [evL_length] at e9
      injection e9 with e91 e92 e93
      subst e91
      subst e92
      subst e93
      replace hE := Aside0.mk hE2
      clear hBy hx hE2
      have g4 := Aside0.mk (show w.heap.size ≤ b4 from Nat.le_of_eq hb4.out)
      go_wp2
      go_loopg [5, 32] (a1.size + 1) (fun kq v5 v32 w' => ∃ (x : Int) (st : Int) (d : ByteArray) (acts : Al), v32 = .int .i64 x ∧ (∃ A5 L5 c5, v5 = .slice A5 L5 c5) ∧ Aside0 (0 ≤ x ∧ x + kq = a1.size + 1) ∧ Aside0 (dialL k l0 ((evL a1).drop x.toNat) st d acts = some (r1, r2, r3, r4)) ∧ Aside0 (Kd.R k47 47 w' w.heap.size (fun _ => True) (.slice Ao (a1.size + 1) co) (evL a1)) ∧ Aside0 (Kd.R k62 62 w' w.heap.size (fun _ => True) v5 acts) ∧ Aside0 (w'.heap[b4]? = some (.cells #[.int .i64 st, .string d] 45 (0, 0))) ∧ Aside0 (Below w.heap.size w w'))
      case atStart => exact ⟨0, 0, ⟨#[]⟩, [], rfl, ⟨_, _, _, rfl⟩, ⟨by omega⟩, h, hE, ⟨Kd.R_nil _ _ _ _ _⟩, k4, hB⟩
      case round =>
        clear hE k4 hB h
        obtain ⟨x, st, d, acts, rfl, ⟨A5, L5, c5, rfl⟩, hx, hd, hE, hA, k4, hB⟩ := hrel
        cases gk with
        | zero =>
          have c3b0 : decide (x < ((a1.size : Int) + 1)) = false := decide_eq_false (by have := hx.out; omega)
          have hd1 := hd.out
          rw [List.drop_eq_nil_of_le (by rw [evL_length]; have := hx.out; omega)] at hd1
          simp only [dialL, Option.some.injEq, Prod.mk.injEq] at hd1
          obtain ⟨rfl, rfl, rfl, rfl⟩ := hd1
          have e40 : wr.cell? ⟨b4, 0, none⟩ = some (.int .i64 st) := (blk_cell k4.out 0).trans rfl
          have e41 : wr.cell? ⟨b4, 1, none⟩ = some (.string d) := (blk_cell k4.out 1).trans rfl
          have f40 : wr.frozen? ⟨b4, 0, none⟩ = false := blk_frozen k4.out 0
          have f41 : wr.frozen? ⟨b4, 1, none⟩ = false := blk_frozen k4.out 1
          clear hd hE hx
          go_wp2
          exact dial_end (blk_put (blk_put k4.out 0 (.int .i64 st) rfl) 1 (.string d) rfl) rfl rfl rfl rfl ⟨_, rfl, Kd.R_set (Kd.R_set hA.out k4.out (by decide) 0 _) (blk_put k4.out 0 (.int .i64 st) rfl) (by decide) 1 _, below_set (below_set hB.out g4.out) g4.out⟩
        | succ k1 =>
          have c3 : x < ((a1.size : Int) + 1) := by have := hx.out; omega
          have c3b0 : decide (x < ((a1.size : Int) + 1)) = true := decide_eq_true c3
          have p0 : 0 ≤ x := hx.out.1
          have hil : x.toNat < (evL a1).length := by rw [evL_length]; omega
          obtain ⟨ad2, ead, hx0, hx1, hx2⟩ := at_T47 (Kd.R_reads' hE.out).2.2 x p0 (by rw [evL_length]; omega)
          cases ead
          have hdrop : (evL a1).drop x.toNat = rd_T47 (evL a1) x :: (evL a1).drop (x.toNat + 1) := by
            rw [List.drop_eq_getElem_cons hil]
            unfold rd_T47
            rw [List.getD_eq_getElem?_getD, List.getElem?_eq_getElem hil]
            rfl
          have hd1 := hd.out
          rw [hdrop] at hd1
          obtain ⟨⟨ek, ec, ed⟩, hrd⟩ : ∃ q, q = rd_T47 (evL a1) x := ⟨_, rfl⟩
          rw [← hrd] at hx0 hx1 hx2 hd1
          simp only at hx0 hx1 hx2
          rw [dialL] at hd1
          obtain ⟨⟨s1, s2, s3, s4⟩, hS, hd1⟩ := Option.bind_eq_some_iff.1 hd1
          simp only at hS hd1
          have hw : wrap64 (x + 1) = x + 1 := by have := hs.out; unfold wrap64; omega
          replace hw := Aside0.mk hw
          replace hS := Aside0.mk hS
          replace hd := Aside0.mk hd1
          replace p0 := eq_true p0
          replace c3 := eq_true c3
          clear hrd hdrop hd1 hil
          go_upto_region 10 with (fail)
          obtain ⟨W1', hW1⟩ : ∃ W1', wr.alloc (.cells #[.int .i64 ek, .int .i64 ec, .int .u8 ed] 47) = W1' := ⟨_, rfl⟩
          rw [hW1]
          have k11 : W1'.heap[wr.heap.size]? = some (.cells #[.int .i64 ek, .int .i64 ec, .int .u8 ed] 47 (0, 0)) := by rw [← hW1]; exact blk_new _ _
          have k41 : W1'.heap[b4]? = some (.cells #[.int .i64 st, .string d] 45 (0, 0)) := by rw [← hW1]; exact blk_alloc k4.out _
          have hB1 : Below w.heap.size w W1' := by rw [← hW1]; exact below_alloc hB.out _
          have hBr : Below wr.heap.size wr W1' := by rw [← hW1]; exact below_alloc (Below.refl _ _) _
          have q110 : W1'.cell? ⟨wr.heap.size, 0, none⟩ = some (.int .i64 ek) := (blk_cell k11 0).trans rfl
          have q111 : W1'.cell? ⟨wr.heap.size, 1, none⟩ = some (.int .i64 ec) := (blk_cell k11 1).trans rfl
          have q112 : W1'.cell? ⟨wr.heap.size, 2, none⟩ = some (.int .u8 ed) := (blk_cell k11 2).trans rfl
          have q40 : W1'.cell? ⟨b4, 0, none⟩ = some (.int .i64 st) := (blk_cell k41 0).trans rfl
          have q41 : W1'.cell? ⟨b4, 1, none⟩ = some (.string d) := (blk_cell k41 1).trans rfl
          have hE1 := Aside0.mk (Kd.R_below hE.out hBr)
          have hA1 := Aside0.mk (Kd.R_below hA.out hBr)
          replace k41 := Aside0.mk k41
          replace hB1 := Aside0.mk hB1
          clear hW1 k11 hBr hE hA k4 hB hx0 hx1 hx2
          go_upto_region 11 with (first | (go_at_call 24; refine (origin_Step.calls k st d A0 c0 l0 ek ec ed s1 s2 s3 s4 _ (Kd.C_below HR0.out hB1.out) HC0.out hS.out).mono ?_; rintro e W2 ⟨v2, rfl, hR2, hB2⟩; obtain ⟨Am, Lm, cm, hvm⟩ := R_shape hR2; subst hvm; have hE2 := Aside0.mk (Kd.R_below hE1.out hB2); have hA2 := Aside0.mk (Kd.R_below hA1.out hB2); have k42 := Aside0.mk (blk_below k41.out hB2); replace hR2 := Aside0.mk (Kd.R_lower hR2 (below_size hB1.out)); replace hB2 := Aside0.mk (below_step hB1.out hB2); clear hE1 hA1 k41 q40 q41 q110 q111 q112))
          obtain ⟨W3, hW3⟩ : ∃ W3, W2.alloc (.cells #[.int .i64 s1, .string s2] 45) = W3 := ⟨_, rfl⟩
          rw [hW3]
          have k12 := Aside0.mk (show W3.heap[W2.heap.size]? = some (.cells #[.int .i64 s1, .string s2] 45 (0, 0)) by rw [← hW3]; exact blk_new _ _)
          have k43 := Aside0.mk (show W3.heap[b4]? = some (.cells #[.int .i64 st, .string d] 45 (0, 0)) by rw [← hW3]; exact blk_alloc k42.out _)
          have hBr : Below W2.heap.size W2 W3 := by rw [← hW3]; exact below_alloc (Below.refl _ _) _
          have hE3 := Aside0.mk (Kd.R_below hE2.out hBr)
          have hA3 := Aside0.mk (Kd.R_below hA2.out hBr)
          have hM3 := Aside0.mk (Kd.R_below hR2.out hBr)
          have hB3 := Aside0.mk (below_then hB2.out hB2.out.size hBr)
          have h12 := Aside0.mk (show W2.heap.size ≠ b4 from Nat.ne_of_gt (blk_lt k42.out))
          obtain ⟨b12, hb12⟩ : ∃ b12, W2.heap.size = b12 := ⟨_, rfl⟩
          rw [hb12] at k12 h12 ⊢
          have e120 : W3.cell? ⟨b12, 0, none⟩ = some (.int .i64 s1) := (blk_cell k12.out 0).trans rfl
          have e121 : W3.cell? ⟨b12, 1, none⟩ = some (.string s2) := (blk_cell k12.out 1).trans rfl
          have e40 : W3.cell? ⟨b4, 0, none⟩ = some (.int .i64 st) := (blk_cell k43.out 0).trans rfl
          have e41 : W3.cell? ⟨b4, 1, none⟩ = some (.string d) := (blk_cell k43.out 1).trans rfl
          have f40 : W3.frozen? ⟨b4, 0, none⟩ = false := blk_frozen k43.out 0
          have f41 : W3.frozen? ⟨b4, 1, none⟩ = false := blk_frozen k43.out 1
          clear hW3 hBr hb12 hE2 hA2 hR2 hB2 k42
          by_cases h4 : s4 = 0
          · subst h4
            replace hd := hd.out
            rw [if_neg (by decide)] at hd
            by_cases hlen : acts.length + s3.length < 1000000
            rotate_left
            · rw [if_neg hlen] at hd
              cases hd
            rw [if_pos hlen] at hd
            replace hd := Aside0.mk hd
            replace hlen := Aside0.mk hlen
            have hMl := Aside0.mk (Kd.R_reads' hM3.out).1.symm
            go_upto_region 13 with (fail)
            obtain ⟨W4, hW4⟩ : ∃ W4, W3.drew = W4 := ⟨_, rfl⟩
            refine start_ (n := 6) (S := fun w' => w'.cell? ⟨b12, 0, none⟩ = some (.int .i64 s1) ∧ w'.cell? ⟨b12, 1, none⟩ = some (.string s2)) (ds := []) #[false, false, false, false, false, false] (by kernel_rfl) rfl rfl ⟨e120, e121⟩ (fun hHeld => ?_)
            rw [hW4] at hHeld ⊢
            have m12 := (show W3.drew.heap[b12]? = _ from k12.out)
            have m4 := (show W3.drew.heap[b4]? = _ from k43.out)
            have mE := Kd.R_drew hE3.out
            have mA := Kd.R_drew hA3.out
            have mM := Kd.R_drew hM3.out
            have mB := below_drew1 hB3.out
            rw [hW4] at m12 m4 mE mA mM mB
            replace m12 := Aside0.mk m12
            replace m4 := Aside0.mk m4
            replace mE := Aside0.mk mE
            replace mA := Aside0.mk mA
            replace mM := Aside0.mk mM
            replace mB := Aside0.mk mB
            clear hW4 k12 k43 hE3 hA3 hM3 hB3 e120 e121 e40 e41 f40 f41
            refine pure_ (i := 1) (N := some 49) (v := ?_) (a' := ?_) #[false, true, false, false, false, false] rfl rfl (by kernel_rfl) (fun _ _ _ h => h) (Or.inl ⟨by rfl, ?_⟩) ?_ ?_
            rotate_left
            · intro w'
              go_simp
              with_reducible rfl
            rotate_left
            · simp only [Act.put, List.setIfInBounds_toArray, List.set_cons_zero, List.set_cons_succ]
              rfl
            refine pure_ (i := 2) (N := some 50) (v := ?_) (a' := ?_) #[false, true, true, false, false, false] rfl rfl (by kernel_rfl) (fun _ _ _ h => h) (Or.inl ⟨by rfl, ?_⟩) ?_ ?_
            rotate_left
            · intro w'
              go_simp
              with_reducible rfl
            rotate_left
            · simp only [Act.put, List.setIfInBounds_toArray, List.set_cons_zero, List.set_cons_succ]
              rfl
            refine take_ (i := 0) (N := some 48) (v := ?_) (a' := ?_) #[true, true, true, false, false, false] rfl rfl (by kernel_rfl) (fun _ _ _ h => h) (Or.inl ⟨by rfl, ?_⟩) hHeld ?_ ?_
            rotate_left
            · rintro w' ⟨s0, s1_⟩
              go_simp
              with_reducible rfl
            rotate_left
            · simp only [Act.put, List.setIfInBounds_toArray, List.set_cons_zero, List.set_cons_succ]
              rfl
            refine one_ (i := 3) (N := some 51) #[true, true, true, true, false, false] rfl rfl (by kernel_rfl) (by decide) (fun K hK => ?_)
            refine Kd.R_append_rows_step k62 (w0 := w) w.heap.size (by rfl) (.tmp 49) (.tmp 50) 48 62 (.agg #[(.int .i64 0), (.int .i64 0), (.string ⟨#[]⟩), (.int .i64 0)]) 40 rfl Tryd.underlying48 info62 rfl (by decide) (by omega) (.slice A5 L5 c5) acts s3 _ _ _ (fun _ => True) (fun _ => False) rfl rfl ?aO ?aR (fun _ _ h => h) (fun _ h => h.elim) ?aF ?aB ?aS ?aL ?_
            (case aO => exact mA.out)
            (case aR => exact hMl.out ▸ (Kd.R_reads' mM.out).2.2)
            (case aF => exact fun _ _ => trivial)
            (case aB => exact mB.out)
            (case aS => exact below_size mB.out)
            (case aL => have := hlen.out; have := hMl.out; omega)
            intro v1 W5 ho1 hb hg hat
            obtain ⟨A6, L6, c6, hv1⟩ := R_shape ho1
            subst hv1
            have n12 := Aside0.mk (blk_grown m12.out hg (Kd.R_ne mA.out m12.out (by decide)))
            have n4 := Aside0.mk (blk_grown m4.out hg (Kd.R_ne mA.out m4.out (by decide)))
            have nE := Aside0.mk (Kd.R_grown2 mE.out rfl hg (fun g hgk => by obtain ⟨cs, hcs⟩ := R_type mA.out rfl hgk; exact Kd.R_ne mE.out hcs (by decide)))
            replace ho1 := Aside0.mk ho1
            replace hb := Aside0.mk hb
            clear hg hat mM m12 m4 mE mA mB
            have e40 : W5.cell? ⟨b4, 0, none⟩ = some (.int .i64 st) := (blk_cell n4.out 0).trans rfl
            have e41 : W5.cell? ⟨b4, 1, none⟩ = some (.string d) := (blk_cell n4.out 1).trans rfl
            have f40 : W5.frozen? ⟨b4, 0, none⟩ = false := blk_frozen n4.out 0
            have f41 : W5.frozen? ⟨b4, 1, none⟩ = false := blk_frozen n4.out 1
            refine hK.out _ _ ⟨(blk_cell n12.out 0).trans rfl, (blk_cell n12.out 1).trans rfl⟩ (fun hHeld => ?_)
            clear hK K
            refine norm_ (a' := ?_) ?_ ?_
            rotate_left
            · simp only [Act.put, List.setIfInBounds_toArray, List.set_cons_zero, List.set_cons_succ]
              rfl
            refine one_ (i := 4) (N := none) #[true, true, true, true, true, false] rfl rfl (by kernel_rfl) (by decide) (fun K hK => ?_)
            refine skip_ (w1 := ?_) (by rfl) rfl ?_ ?_
            rotate_left
            · go_simp
              rfl
            have x12 := blk_far (p := ⟨b4, 1, none⟩) (blk_far (p := ⟨b4, 0, none⟩) n12.out h12.out (.int .i64 s1)) h12.out (.string s2)
            refine hK.out _ _ ⟨(blk_cell x12 0).trans rfl, (blk_cell x12 1).trans rfl⟩ (fun hHeld => ?_)
            clear hK K x12
            refine pure_ (i := 5) (N := some 5) (v := ?_) (a' := ?_) #[true, true, true, true, true, true] rfl rfl (by kernel_rfl) (fun _ _ _ h => h) (Or.inl ⟨by rfl, ?_⟩) ?_ ?_
            rotate_left
            · intro w'
              go_simp
              with_reducible rfl
            rotate_left
            · simp only [Act.put, List.setIfInBounds_toArray, List.set_cons_zero, List.set_cons_succ]
              rfl
            refine done_ (by kernel_rfl) ?_
            have z4 := Aside0.mk (blk_put (blk_put n4.out 0 (.int .i64 s1) rfl) 1 (.string s2) rfl)
            have zE := Aside0.mk (Kd.R_set (Kd.R_set nE.out n4.out (by decide) 0 (.int .i64 s1)) (blk_put n4.out 0 (.int .i64 s1) rfl) (by decide) 1 (.string s2))
            have zA := Aside0.mk (Kd.R_set (Kd.R_set ho1.out n4.out (by decide) 0 (.int .i64 s1)) (blk_put n4.out 0 (.int .i64 s1) rfl) (by decide) 1 (.string s2))
            have zB := Aside0.mk (below_set (j := 1) (v := .string s2) (below_set (j := 0) (v := .int .i64 s1) hb.out g4.out) g4.out)
            clear n4 nE n12 ho1 hb e40 e41 f40 f41 hHeld
            go_wp2
            go_roundg k1
            case measure => omega
            case rel =>
              refine ⟨x + 1, s1, s2, acts ++ s3, by rw [hw.out], ⟨_, _, _, rfl⟩, ⟨by have := hx.out; omega⟩, ⟨?_⟩, zE, zA, z4, zB⟩
              rw [show (x + 1).toNat = x.toNat + 1 by have := hx.out; omega]
              exact hd.out
          · replace hd := hd.out
            rw [if_pos h4] at hd
            simp only [Option.some.injEq, Prod.mk.injEq] at hd
            obtain ⟨rfl, rfl, rfl, rfl⟩ := hd
            have hrn : (s4 != 0) = true := bne_iff_ne.2 h4
            have hre : (s4 == 0) = false := beq_eq_false_iff_ne.2 h4
            have hrd : decide (s4 = 0) = false := decide_eq_false h4
            clear h4 hE3 hA3 hM3 hx
            go_wp2
            exact dial_end (blk_put (blk_put k43.out 0 (.int .i64 0) rfl) 1 (.string ⟨#[]⟩) rfl) rfl rfl rfl rfl ⟨_, rfl, Kd.R_nil _ _ _ _ _, below_set (below_set hB3.out g4.out) g4.out⟩

end Go.Proofs.YthknfclhkmehgaaDoor.Fn
