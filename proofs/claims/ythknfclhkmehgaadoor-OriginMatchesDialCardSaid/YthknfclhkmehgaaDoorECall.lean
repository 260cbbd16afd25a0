/-
  origin.caller's small methods: the walks.
-/
import Derived.Test.YthknfclhkmehgaaDoorFn0
import Derived.Deep.RegionHeld3
namespace Go.Proofs.YthknfclhkmehgaaDoor.Fn
open Go.RowKit Go.Proofs.YthknfclhkmehgaaDoorW.PrintWords Go.Proofs.YthknfclhkmehgaaDoorW.PrintLast Go.Proofs.YthknfclhkmehgaaDoorW.PrintMore
set_option linter.unusedVariables false
set_option linter.unusedSimpArgs false

abbrev Al := List S62
/-- A half call at work lies in block c: its state and digits, its actions so far. -/
def Cl (w0 : World) (c : Nat) (A0 : Option Addr) (n c0 : Nat) (kd cs dg : Int) (W : World) (st : Int) (d : ByteArray) (acts : Al) : Prop :=
  ∃ v, W.heap[c]? = some (.cells #[.int .i64 st, .string d, .slice A0 n c0, .int .i64 kd, .int .i64 cs, .int .u8 dg, v] 99 (0, 0)) ∧ Kd.R k62 62 W w0.heap.size (fun _ => True) v acts ∧ Below w0.heap.size w0 W ∧ w0.heap.size ≤ c
theorem Cl_below {w0 : World} {c : Nat} {A0 : Option Addr} {n c0 : Nat} {kd cs dg : Int} {W W' : World} {st : Int} {d : ByteArray} {acts : Al} (h : Cl w0 c A0 n c0 kd cs dg W st d acts) (hb : Below W.heap.size W W') : Cl w0 c A0 n c0 kd cs dg W' st d acts := by
  obtain ⟨v, h1, h2, h3, h4⟩ := h
  exact ⟨v, blk_below h1 hb, Kd.R_below h2 hb, below_step h3 hb, h4⟩
theorem Cl_enter {w0 : World} {c : Nat} {A0 : Option Addr} {n c0 : Nat} {kd cs dg : Int} {W : World} {st : Int} {d : ByteArray} {acts : Al} (h : Cl w0 c A0 n c0 kd cs dg W st d acts) (st' : Int) (d' : ByteArray) : Cl w0 c A0 n c0 kd cs dg ((W.setCell ⟨c, 0, none⟩ (.int .i64 st')).setCell ⟨c, 1, none⟩ (.string d')) st' d' acts := by
  obtain ⟨v, h1, h2, h3, h4⟩ := h
  have b1 := blk_put h1 0 (.int .i64 st') rfl
  have r1 := Kd.R_set h2 h1 (by decide) 0 (.int .i64 st')
  exact ⟨v, blk_put b1 1 (.string d') rfl, Kd.R_set r1 b1 (by decide) 1 (.string d'), below_set (below_set h3 h4) h4, h4⟩

set_option maxHeartbeats 4000000 in
set_option maxRecDepth 100000 in
theorem Enter_in (w0 : World) (c : Nat) (A0 : Option Addr) (n c0 : Nat) (kd cs dg : Int) (w : World) (st : Int) (d : ByteArray) (acts : Al) (h : Cl w0 c A0 n c0 kd cs dg w st d acts) (st' : Int) :
    Calls Tryd.prog 87 #[.pointer (some ⟨c, 0, none⟩), .int .i64 st'] w fun e w' => e = .returned (.tuple #[]) ∧ Cl w0 c A0 n c0 kd cs dg w' st' ⟨#[]⟩ acts := by
  have hu45 := Tryd.underlying45
  have hu99 := Tryd.underlying99
  have hE := Aside0.mk (Cl_enter h st' ⟨#[]⟩)
  obtain ⟨v, h1, h2, h3, h4⟩ := h
  have e0 : w.cell? ⟨c, 0, none⟩ = some (.int .i64 st) := (blk_cell h1 0).trans rfl
  have e1 : w.cell? ⟨c, 1, none⟩ = some (.string d) := (blk_cell h1 1).trans rfl
  have f0 : w.frozen? ⟨c, 0, none⟩ = false := blk_frozen h1 0
  have f1 : w.frozen? ⟨c, 1, none⟩ = false := blk_frozen h1 1
  clear h1 h2 h3 h4
  go_enter Tryd.func87, Tryd.ntmps87
  go_wp2
  exact bodyPost_end (v := .tuple #[]) (results_none rfl _ _ _) rfl ⟨rfl, hE.out⟩

theorem R_shape {α : Type} {k : Kd α} {e : Nat} {W : World} {b : Nat} {ok : Nat → Prop} {v : Value} {xs : List α} (h : Kd.R k e W b ok v xs) : ∃ A L q, v = .slice A L q := by
  obtain ⟨A, q, h⟩ := Kd.R_slice h
  exact ⟨A, _, q, h⟩

theorem Cl_app {w0 : World} {c : Nat} {A0 : Option Addr} {n c0 : Nat} {kd cs dg : Int} {W w1 : World} {st : Int} {d : ByteArray} {acts acts' : Al} {v v1 : Value} (h1 : W.heap[c]? = some (.cells #[.int .i64 st, .string d, .slice A0 n c0, .int .i64 kd, .int .i64 cs, .int .u8 dg, v] 99 (0, 0))) (h2 : Kd.R k62 62 W w0.heap.size (fun _ => True) v acts) (h4 : w0.heap.size ≤ c)
    (ho : Kd.R k62 62 w1 w0.heap.size (fun _ => True) v1 acts') (hb : Below w0.heap.size w0 w1) (hg : W.grownBy w1 v.ownBlock) :
    (w1.cell? ⟨c, 6, none⟩ = some v ∧ w1.frozen? ⟨c, 6, none⟩ = false) ∧ Cl w0 c A0 n c0 kd cs dg (w1.setCell ⟨c, 6, none⟩ v1) st d acts' := by
  have hb1 := blk_grown h1 hg (Kd.R_ne h2 h1 (by decide))
  exact ⟨⟨(blk_cell hb1 6).trans rfl, blk_frozen hb1 6⟩, v1, blk_put hb1 6 v1 rfl, Kd.R_set ho hb1 (by decide) 6 v1, below_set hb h4, h4⟩

set_option maxHeartbeats 4000000 in
set_option maxRecDepth 100000 in
theorem Tone_in (w0 : World) (c : Nat) (A0 : Option Addr) (n c0 : Nat) (kd cs dg : Int) (w : World) (st : Int) (d : ByteArray) (acts : Al) (h : Cl w0 c A0 n c0 kd cs dg w st d acts) (hl : acts.length < 1000) (ca : Int) :
    Calls Tryd.prog 92 #[.pointer (some ⟨c, 0, none⟩), .int .i64 ca] w fun e w' => e = .returned (.tuple #[]) ∧ Cl w0 c A0 n c0 kd cs dg w' 5 ⟨#[]⟩ (acts ++ [⟨3, ca, ⟨#[]⟩, 0⟩]) := by
  have hu45 := Tryd.underlying45
  have hu62 := Tryd.underlying62
  have hu99 := Tryd.underlying99
  obtain ⟨v, h1, h2, h3, h4⟩ := h
  have e6 : w.cell? ⟨c, 6, none⟩ = some v := (blk_cell h1 6).trans rfl
  replace h1 := Aside0.mk h1
  replace h2 := Aside0.mk h2
  replace h3 := Aside0.mk h3
  replace h4 := Aside0.mk h4
  replace hl := Aside0.mk hl
  go_enter Tryd.func92, Tryd.ntmps92
  go_wp2_with (first | ((with_reducible refine gate_builtin (b := .append) (xs := #[.tmp 8, .tmp 11]) rfl ?_); at_builtin; refine Kd.R_append k62 (w0 := w0) w0.heap.size rfl (.tmp 8) (.tmp 11) 48 62 (.agg #[(.int .i64 0), (.int .i64 0), (.string ⟨#[]⟩), (.int .i64 0)]) 40 rfl Tryd.underlying48 info62 rfl (by decide) (by omega) v acts ⟨3, ca, ⟨#[]⟩, 0⟩ [.int .i64 3, .int .i64 ca, .string ⟨#[]⟩, .int .i64 0] (fun _ => True) (fun _ => False) rfl rfl ?aP (fun _ hk => hk.elim) ?aF ?aO ?aB ?aS ?aL ?_; (case aP => exact k62_mkM _ _ _ ⟨3, ca, ⟨#[]⟩, 0⟩); (case aB => exact h3.out); (case aF => exact fun _ _ => trivial); (case aO => exact h2.out); (case aS => exact below_size h3.out); (case aL => have := hl.out; omega); intro v1 w1 ho hb hg hat; obtain ⟨Ao, Lo, co, hv1⟩ := R_shape ho; subst hv1; obtain ⟨⟨e61, f61⟩, hC⟩ := Cl_app h1.out h2.out h4.out ho hb hg; replace hC := Aside0.mk hC; clear ho hb hg hat e6) | (go_at_call 87; refine (Enter_in w0 c A0 n c0 kd cs dg _ st d _ hC.out 5).mono ?_; rintro e W2 ⟨rfl, hC2⟩; replace hC2 := Aside0.mk hC2))
  exact bodyPost_end (v := .tuple #[]) (results_none rfl _ _ _) rfl ⟨rfl, hC2.out⟩

set_option maxHeartbeats 4000000 in
set_option maxRecDepth 100000 in
theorem Timer_in (w0 : World) (c : Nat) (A0 : Option Addr) (n c0 : Nat) (kd cs dg : Int) (w : World) (st : Int) (d : ByteArray) (acts : Al) (h : Cl w0 c A0 n c0 kd cs dg w st d acts) (hl : acts.length < 1000) :
    Calls Tryd.prog 89 #[.pointer (some ⟨c, 0, none⟩)] w fun e w' => e = .returned (.tuple #[]) ∧ Cl w0 c A0 n c0 kd cs dg w' st d (acts ++ [⟨9, 0, ⟨#[]⟩, 10⟩]) := by
  have hu45 := Tryd.underlying45
  have hu62 := Tryd.underlying62
  have hu99 := Tryd.underlying99
  obtain ⟨v, h1, h2, h3, h4⟩ := h
  have e6 : w.cell? ⟨c, 6, none⟩ = some v := (blk_cell h1 6).trans rfl
  replace h1 := Aside0.mk h1
  replace h2 := Aside0.mk h2
  replace h3 := Aside0.mk h3
  replace h4 := Aside0.mk h4
  replace hl := Aside0.mk hl
  go_enter Tryd.func89, Tryd.ntmps89
  go_wp2_with (first | ((with_reducible refine gate_builtin (b := .append) (xs := #[.tmp 6, .tmp 8]) rfl ?_); at_builtin; refine Kd.R_append k62 (w0 := w0) w0.heap.size rfl (.tmp 6) (.tmp 8) 48 62 (.agg #[(.int .i64 0), (.int .i64 0), (.string ⟨#[]⟩), (.int .i64 0)]) 40 rfl Tryd.underlying48 info62 rfl (by decide) (by omega) v acts ⟨9, 0, ⟨#[]⟩, 10⟩ [.int .i64 9, .int .i64 0, .string ⟨#[]⟩, .int .i64 10] (fun _ => True) (fun _ => False) rfl rfl ?aP (fun _ hk => hk.elim) ?aF ?aO ?aB ?aS ?aL ?_; (case aP => exact k62_mkM _ _ _ ⟨9, 0, ⟨#[]⟩, 10⟩); (case aB => exact h3.out); (case aF => exact fun _ _ => trivial); (case aO => exact h2.out); (case aS => exact below_size h3.out); (case aL => have := hl.out; omega); intro v1 w1 ho hb hg hat; obtain ⟨Ao, Lo, co, hv1⟩ := R_shape ho; subst hv1; obtain ⟨⟨e61, f61⟩, hC⟩ := Cl_app h1.out h2.out h4.out ho hb hg; replace hC := Aside0.mk hC; clear ho hb hg hat e6))
  exact bodyPost_end (v := .tuple #[]) (results_none rfl _ _ _) rfl ⟨rfl, hC.out⟩

/-- The kinds that ask is given lie in block bk. -/
def Ks (W : World) (bk : Nat) (ks : List Int) : Prop := W.heap[bk]? = some (.cells (ks.map (Value.int .i64)).toArray 3 (0, 0))
def actK (k : Int) : S62 := ⟨k, 0, ⟨#[]⟩, 0⟩
theorem addr_zero (bk m : Nat) : (⟨bk, 0, none⟩ : Addr).add m = ⟨bk, m, none⟩ := by
  unfold Addr.add
  split
  · rename_i h
    subst h
    rfl
  · simp
theorem Ks_ne {W : World} {bk c : Nat} {ks : List Int} {cs : Array Value} (h : Ks W bk ks) (h1 : W.heap[c]? = some (.cells cs 99 (0, 0))) : bk ≠ c := by
  intro e
  subst e
  unfold Ks at h
  rw [h] at h1
  injection h1 with h1
  injection h1 with _ h1
  exact absurd h1 (by decide)
theorem Ks_at {W : World} {bk : Nat} {ks : List Int} (h : Ks W bk ks) {i : Nat} (hi : i < ks.length) : W.cell? ((⟨bk, 0, none⟩ : Addr).add i) = some (.int .i64 (ks.getD i 0)) := by
  rw [addr_zero, blk_cell h i]
  rw [List.getElem?_toArray, List.getElem?_map, List.getElem?_eq_getElem hi, List.getD_eq_getElem?_getD, List.getElem?_eq_getElem hi]
  rfl

set_option maxHeartbeats 4000000 in
set_option maxRecDepth 100000 in
theorem Ask_in (w0 : World) (c : Nat) (A0 : Option Addr) (n c0 : Nat) (kd cs dg : Int) (w : World) (st : Int) (d : ByteArray) (acts : Al) (h : Cl w0 c A0 n c0 kd cs dg w st d acts) (hl : acts.length < 1000) (bk : Nat) (ad : Addr) (had : ad = ⟨bk, 0, none⟩) (ks : List Int) (hks : Ks w bk ks) (hkl : ks.length < 1000) (kc : Nat) (hkc : ks.length ≤ kc) :
    Calls Tryd.prog 88 #[.pointer (some ⟨c, 0, none⟩), .slice (some ad) ks.length kc] w fun e w' => e = .returned (.tuple #[]) ∧ Cl w0 c A0 n c0 kd cs dg w' st d (acts ++ ks.map actK) := by
  have hu62 := Tryd.underlying62
  have hu99 := Tryd.underlying99
  replace h := Aside0.mk h
  replace hl := Aside0.mk hl
  replace had := Aside0.mk had
  replace hks := Aside0.mk hks
  replace hkl := Aside0.mk hkl
  replace hkc := Aside0.mk hkc
  go_enter Tryd.func88, Tryd.ntmps88
  go_wp2
  go_loopg [8] ks.length (fun kq v8 w' => ∃ x : Int, v8 = .int .i64 x ∧ Aside0 (0 ≤ x ∧ x + kq = ks.length) ∧ Aside0 (Cl w0 c A0 n c0 kd cs dg w' st d (acts ++ (ks.take x.toNat).map actK)) ∧ Aside0 (Ks w' bk ks))
  case atStart => exact ⟨0, rfl, ⟨by omega⟩, ⟨by simpa using h.out⟩, hks⟩
  case round =>
    clear h hks
    obtain ⟨x, rfl, hx, hC, hks⟩ := hrel
    cases gk with
    | zero =>
      have c3b0 : decide (x < (ks.length : Int)) = false := decide_eq_false (by have := hx.out; omega)
      have hr := hC.out
      rw [List.take_of_length_le (by have := hx.out; omega)] at hr
      replace hr := Aside0.mk hr
      go_wp2
      exact bodyPost_end (v := .tuple #[]) (results_none rfl _ _ _) rfl ⟨rfl, hr.out⟩
    | succ k1 =>
      have c3 : x < (ks.length : Int) := by have := hx.out; omega
      have c3b0 : decide (x < (ks.length : Int)) = true := decide_eq_true c3
      have p0 : 0 ≤ x := hx.out.1
      have hil : x.toNat < ks.length := by omega
      have ek := Ks_at hks.out hil
      rw [← had.out] at ek
      obtain ⟨q, hq⟩ : ∃ q, q = ks.getD x.toNat 0 := ⟨_, rfl⟩
      rw [← hq] at ek
      have hw : wrap64 (x + 1) = x + 1 := by have := hkl.out; unfold wrap64; omega
      have hnext : (acts ++ (ks.take x.toNat).map actK) ++ [actK q] = acts ++ (ks.take (x + 1).toNat).map actK := by
        rw [show (x + 1).toNat = x.toNat + 1 by omega, List.take_succ_eq_append_getElem hil, List.map_append, List.append_assoc, hq, List.getD_eq_getElem?_getD, List.getElem?_eq_getElem hil]
        rfl
      have hlen : (acts ++ (ks.take x.toNat).map actK).length < 2000 := by
        have := hl.out
        have := hkl.out
        rw [List.length_append, List.length_map, List.length_take]
        omega
      obtain ⟨L, hL⟩ : ∃ L, L = acts ++ (ks.take x.toNat).map actK := ⟨_, rfl⟩
      rw [← hL] at hC hnext hlen
      obtain ⟨v, h1, h2, h3, h4⟩ := hC.out
      have e6 : wr.cell? ⟨c, 6, none⟩ = some v := (blk_cell h1 6).trans rfl
      replace h1 := Aside0.mk h1
      replace h2 := Aside0.mk h2
      replace h3 := Aside0.mk h3
      replace h4 := Aside0.mk h4
      replace hnext := Aside0.mk hnext
      replace hlen := Aside0.mk hlen
      replace hL := Aside0.mk hL
      replace hq := Aside0.mk hq
      replace hil := Aside0.mk hil
      replace hw := Aside0.mk hw
      replace p0 := eq_true p0
      replace c3 := eq_true c3
      clear hC
      go_wp2_with (first | ((with_reducible refine gate_builtin (b := .append) (xs := #[.tmp 16, .tmp 19]) rfl ?_); at_builtin; refine Kd.R_append k62 (w0 := w0) w0.heap.size rfl (.tmp 16) (.tmp 19) 48 62 (.agg #[(.int .i64 0), (.int .i64 0), (.string ⟨#[]⟩), (.int .i64 0)]) 40 rfl Tryd.underlying48 info62 rfl (by decide) (by omega) v L (actK q) [.int .i64 q, .int .i64 0, .string ⟨#[]⟩, .int .i64 0] (fun _ => True) (fun _ => False) rfl rfl ?aP (fun _ hk => hk.elim) ?aF ?aO ?aB ?aS ?aL ?_; (case aP => exact k62_mkM _ _ _ (actK q)); (case aB => exact h3.out); (case aF => exact fun _ _ => trivial); (case aO => exact h2.out); (case aS => exact below_size h3.out); (case aL => have := hlen.out; omega); intro v1 w1 ho hb hg hat; have hks1 := Aside0.mk (blk_far (p := ⟨c, 6, none⟩) (blk_grown hks.out hg (Kd.R_ne h2.out hks.out (by decide))) (Ks_ne hks.out h1.out) v1); obtain ⟨Ao, Lo, co, hv1⟩ := R_shape ho; subst hv1; obtain ⟨⟨e61, f61⟩, hC⟩ := Cl_app h1.out h2.out h4.out ho hb hg; replace hC := Aside0.mk hC; clear ho hb hg hat e6))
      go_roundg k1
      case measure => omega
      case rel =>
        refine ⟨x + 1, by rw [hw.out], ⟨by have := hx.out; omega⟩, ⟨?_⟩, ⟨hks1.out⟩⟩
        rw [← hnext.out]
        exact hC.out

end Go.Proofs.YthknfclhkmehgaaDoor.Fn
