/-
  origin.caller's digit: the walk.
-/
import Derived.Test.YthknfclhkmehgaaDoorEOrig
namespace Go.Proofs.YthknfclhkmehgaaDoor.Fn
open Go.RowKit Go.Proofs.YthknfclhkmehgaaDoorW.PrintWords Go.Proofs.YthknfclhkmehgaaDoorW.PrintLast Go.Proofs.YthknfclhkmehgaaDoorW.PrintMore
set_option linter.unusedVariables false
set_option linter.unusedSimpArgs false

theorem enc_small : ∀ n : Fin 10, (Utf8.encode ((n : Nat) + 48 : Int)).size = 1 := by decide +kernel
theorem enc_size {dg : Int} (h0 : 48 ≤ dg) (h1 : dg ≤ 57) : (Utf8.encode dg).size = 1 := by
  have h := enc_small ⟨(dg - 48).toNat, by omega⟩
  rwa [show (((dg - 48).toNat : Nat) : Int) + 48 = dg by omega] at h

theorem blk_ne {W : World} {b c : Nat} {cs cs' : Array Value} {t t' : TypeId} (h : W.heap[b]? = some (.cells cs t (0, 0))) (h' : W.heap[c]? = some (.cells cs' t' (0, 0))) (hne : t ≠ t') : b ≠ c := by
  intro e
  subst e
  rw [h] at h'
  injection h' with h'
  injection h' with _ h'
  exact hne h'

set_option maxHeartbeats 4000000 in
set_option maxRecDepth 100000 in
theorem Ask_keep (w0 : World) (c : Nat) (A0 : Option Addr) (n c0 : Nat) (kd cs dg : Int) (w : World) (st : Int) (d : ByteArray) (acts : Al) (h : Cl w0 c A0 n c0 kd cs dg w st d acts) (hl : acts.length < 1000) (bk : Nat) (ad : Addr) (had : ad = ⟨bk, 0, none⟩) (ks : List Int) (hks : Ks w bk ks) (hkl : ks.length < 1000) (kc : Nat) (hkc : ks.length ≤ kc) (bb : Nat) (cb : Array Value) (hbb : w.heap[bb]? = some (.cells cb 26 (0, 0))) :
    Calls Tryd.prog 88 #[.pointer (some ⟨c, 0, none⟩), .slice (some ad) ks.length kc] w fun e w' => e = .returned (.tuple #[]) ∧ Cl w0 c A0 n c0 kd cs dg w' st d (acts ++ ks.map actK) ∧ w'.heap[bb]? = some (.cells cb 26 (0, 0)) := by
  have hu62 := Tryd.underlying62
  have hu99 := Tryd.underlying99
  replace h := Aside0.mk h
  replace hl := Aside0.mk hl
  replace had := Aside0.mk had
  replace hks := Aside0.mk hks
  replace hkl := Aside0.mk hkl
  replace hkc := Aside0.mk hkc
  replace hbb := Aside0.mk hbb
  go_enter Tryd.func88, Tryd.ntmps88
  go_wp2
  go_loopg [8] ks.length (fun kq v8 w' => ∃ x : Int, v8 = .int .i64 x ∧ Aside0 (0 ≤ x ∧ x + kq = ks.length) ∧ Aside0 (Cl w0 c A0 n c0 kd cs dg w' st d (acts ++ (ks.take x.toNat).map actK)) ∧ Aside0 (Ks w' bk ks) ∧ Aside0 (w'.heap[bb]? = some (.cells cb 26 (0, 0))))
  case atStart => exact ⟨0, rfl, ⟨by omega⟩, ⟨by simpa using h.out⟩, hks, hbb⟩
  case round =>
    clear h hks hbb
    obtain ⟨x, rfl, hx, hC, hks, hbb⟩ := hrel
    cases gk with
    | zero =>
      have c3b0 : decide (x < (ks.length : Int)) = false := decide_eq_false (by have := hx.out; omega)
      have hr := hC.out
      rw [List.take_of_length_le (by have := hx.out; omega)] at hr
      replace hr := Aside0.mk hr
      go_wp2
      exact bodyPost_end (v := .tuple #[]) (results_none rfl _ _ _) rfl ⟨rfl, hr.out, hbb.out⟩
    | succ k1 =>
      have c3 : x < (ks.length : Int) := by have := hx.out; omega
      have c3b0 : decide (x < (ks.length : Int)) = true := decide_eq_true c3
      have p0 : 0 ≤ x := hx.out.1
      have hil : x.toNat < ks.length := by omega
      have ek := Ks_at hks.out hil
      rw [← had.out] at ek
      obtain ⟨q, hq⟩ : ∃ q, q = ks.getD x.toNat 0 := ⟨_, rfl⟩
      rw [← hq] at ek
      have hw : wrap64 (x + 1) = x + 1 := by have := hkl.out; unfold wrap64; omega
      have hnext : (acts ++ (ks.take x.toNat).map actK) ++ [actK q] = acts ++ (ks.take (x + 1).toNat).map actK := by
        rw [show (x + 1).toNat = x.toNat + 1 by omega, List.take_succ_eq_append_getElem hil, List.map_append, List.append_assoc, hq, List.getD_eq_getElem?_getD, List.getElem?_eq_getElem hil]
        rfl
      have hlen : (acts ++ (ks.take x.toNat).map actK).length < 2000 := by
        have := hl.out
        have := hkl.out
        rw [List.length_append, List.length_map, List.length_take]
        omega
      obtain ⟨L, hL⟩ : ∃ L, L = acts ++ (ks.take x.toNat).map actK := ⟨_, rfl⟩
      rw [← hL] at hC hnext hlen
      obtain ⟨v, h1, h2, h3, h4⟩ := hC.out
      have e6 : wr.cell? ⟨c, 6, none⟩ = some v := (blk_cell h1 6).trans rfl
      replace h1 := Aside0.mk h1
      replace h2 := Aside0.mk h2
      replace h3 := Aside0.mk h3
      replace h4 := Aside0.mk h4
      replace hnext := Aside0.mk hnext
      replace hlen := Aside0.mk hlen
      replace hL := Aside0.mk hL
      replace hq := Aside0.mk hq
      replace hil := Aside0.mk hil
      replace hw := Aside0.mk hw
      replace p0 := eq_true p0
      replace c3 := eq_true c3
      clear hC
      go_wp2_with (first | ((with_reducible refine gate_builtin (b := .append) (xs := #[.tmp 16, .tmp 19]) rfl ?_); at_builtin; refine Kd.R_append k62 (w0 := w0) w0.heap.size rfl (.tmp 16) (.tmp 19) 48 62 (.agg #[(.int .i64 0), (.int .i64 0), (.string ⟨#[]⟩), (.int .i64 0)]) 40 rfl Tryd.underlying48 info62 rfl (by decide) (by omega) v L (actK q) [.int .i64 q, .int .i64 0, .string ⟨#[]⟩, .int .i64 0] (fun _ => True) (fun _ => False) rfl rfl ?aP (fun _ hk => hk.elim) ?aF ?aO ?aB ?aS ?aL ?_; (case aP => exact k62_mkM _ _ _ (actK q)); (case aB => exact h3.out); (case aF => exact fun _ _ => trivial); (case aO => exact h2.out); (case aS => exact below_size h3.out); (case aL => have := hlen.out; omega); intro v1 w1 ho hb hg hat; have hks1 := Aside0.mk (blk_far (p := ⟨c, 6, none⟩) (blk_grown hks.out hg (Kd.R_ne h2.out hks.out (by decide))) (Ks_ne hks.out h1.out) v1); have hbb1 := Aside0.mk (blk_far (p := ⟨c, 6, none⟩) (blk_grown hbb.out hg (Kd.R_ne h2.out hbb.out (by decide))) (blk_ne hbb.out h1.out (by decide)) v1); obtain ⟨Ao, Lo, co, hv1⟩ := R_shape ho; subst hv1; obtain ⟨⟨e61, f61⟩, hC⟩ := Cl_app h1.out h2.out h4.out ho hb hg; replace hC := Aside0.mk hC; clear ho hb hg hat e6))
      go_roundg k1
      case measure => omega
      case rel =>
        refine ⟨x + 1, by rw [hw.out], ⟨by have := hx.out; omega⟩, ⟨?_⟩, ⟨hks1.out⟩, ⟨hbb1.out⟩⟩
        rw [← hnext.out]
        exact hC.out

set_option maxHeartbeats 8000000 in
set_option maxRecDepth 100000 in
theorem Digit_in (k : Nat) (w0 : World) (c : Nat) (A0 : Option Addr) (c0 : Nat) (l0 : Rl) (hr0 : Kd.C k35 w0 A0 l0.length l0) (hc0 : l0.length ≤ c0) (kd cs dg : Int) (w : World) (d : ByteArray) (h : Cl w0 c A0 l0.length c0 kd cs dg w 1 d []) (o : O3) (ho : digF k l0 d dg = some o) :
    Calls Tryd.prog 68 #[.pointer (some ⟨c, 0, none⟩)] w fun e w' => e = .returned (.tuple #[]) ∧ Cl w0 c A0 l0.length c0 kd cs dg w' o.1 o.2.1 o.2.2 := by
  have hu5 := Tryd.underlying5
  have hu21 := Tryd.underlying21
  have hu9 := Tryd.underlying9
  have hu26 := Tryd.underlying26
  have hu45 := Tryd.underlying45
  have hu47 := Tryd.underlying47
  have hu99 := Tryd.underlying99
  have hC0 := Aside0.mk h
  have ec1 : w.cell? ⟨c, 1, none⟩ = some (.string d) := by obtain ⟨v, h1, _⟩ := h; exact (blk_cell h1 1).trans rfl
  unfold digF at ho
  by_cases hg : d.size < 1000000 ∧ 48 ≤ dg ∧ dg ≤ 57
  · rw [if_pos hg] at ho
    obtain ⟨hds, hd0, hd1⟩ := hg
    obtain ⟨⟨x, y, z⟩, hA, ho⟩ := Option.bind_eq_some_iff.1 ho
    simp only at ho
    replace hA := Aside0.mk hA
    have HR0 := Aside0.mk hr0
    have HC0 := Aside0.mk hc0
    have hsum := Aside0.mk (show ¬ (9223372036854775807 < d.size + (Utf8.encode dg).size) by rw [enc_size hd0 hd1]; omega)
    have hw21 : IntKind.i32.wrap dg = dg := by rw [IntKind.wrap_i32]; omega
    clear h hr0 hc0 hds hd0 hd1
    by_cases hd : d.size = 0
    · rw [if_pos hd] at ho
      have hse : d.toList.isEmpty = true := by rw [empty_iff hd]; kernel_rfl
      replace ho := Aside0.mk ho
      clear hd
      go_enter Tryd.func68, Tryd.ntmps68
      go_upto_region 2 with (first | (go_at_call 88; refine (Ask_in _ _ _ _ _ _ _ _ _ _ _ _ (Cl_below hC0.out (below_alloc (Below.refl _ _) _)) (by decide) _ _ rfl [2] (blk_new _ _) (by decide) 1 (by decide)).mono ?_; rintro e Wa ⟨rfl, hC00⟩; replace hC00 := Aside0.mk hC00))
      obtain ⟨W, hW⟩ : ∃ W, Wa = W := ⟨_, rfl⟩
      rw [hW]
      rw [hW] at hC00
      have hCa : Aside0 (Cl w0 c A0 l0.length c0 kd cs dg W 1 d [actK 2]) := hC00
      obtain ⟨e1, f1, e5⟩ : W.cell? ⟨c, 1, none⟩ = some (.string d) ∧ W.frozen? ⟨c, 1, none⟩ = false ∧ W.cell? ⟨c, 5, none⟩ = some (.int .u8 dg) := by
        obtain ⟨v, h1, _⟩ := hCa.out
        exact ⟨(blk_cell h1 1).trans rfl, blk_frozen h1 1, (blk_cell h1 5).trans rfl⟩
      clear ec1
      refine start_ (n := 17) (S := fun w' => w'.cell? ⟨c, 1, none⟩ = some (.string d) ∧ w'.cell? ⟨c, 5, none⟩ = some (.int .u8 dg)) (ds := [16]) #[false, false, false, false, false, false, false, false, false, false, false, false, false, false, false, false, false] (by kernel_rfl) rfl rfl ⟨e1, e5⟩ (fun hHeld => ?_)
      refine pure_ (i := 0) (N := some 12) (v := ?_) (a' := ?_) #[true, false, false, false, false, false, false, false, false, false, false, false, false, false, false, false, false] rfl rfl (by kernel_rfl) (fun _ _ _ h => h) (Or.inl ⟨by rfl, ?_⟩) ?_ ?_
      rotate_left
      · intro w'
        go_simp
        with_reducible rfl
      rotate_left
      · simp only [Act.put, List.setIfInBounds_toArray, List.set_cons_zero, List.set_cons_succ]
        rfl
      refine pure_ (i := 1) (N := some 13) (v := ?_) (a' := ?_) #[true, true, false, false, false, false, false, false, false, false, false, false, false, false, false, false, false] rfl rfl (by kernel_rfl) (fun _ _ _ h => h) (Or.inl ⟨by rfl, ?_⟩) ?_ ?_
      rotate_left
      · intro w'
        go_simp
        with_reducible rfl
      rotate_left
      · simp only [Act.put, List.setIfInBounds_toArray, List.set_cons_zero, List.set_cons_succ]
        rfl
      refine pure_ (i := 2) (N := some 14) (v := ?_) (a' := ?_) #[true, true, true, false, false, false, false, false, false, false, false, false, false, false, false, false, false] rfl rfl (by kernel_rfl) (fun _ _ _ h => h) (Or.inl ⟨by rfl, ?_⟩) ?_ ?_
      rotate_left
      · intro w'
        go_simp
        with_reducible rfl
      rotate_left
      · simp only [Act.put, List.setIfInBounds_toArray, List.set_cons_zero, List.set_cons_succ]
        rfl
      refine pure_ (i := 3) (N := some 15) (v := ?_) (a' := ?_) #[true, true, true, true, false, false, false, false, false, false, false, false, false, false, false, false, false] rfl rfl (by kernel_rfl) (fun _ _ _ h => h) (Or.inl ⟨by rfl, ?_⟩) ?_ ?_
      rotate_left
      · intro w'
        go_simp
        with_reducible rfl
      rotate_left
      · simp only [Act.put, List.setIfInBounds_toArray, List.set_cons_zero, List.set_cons_succ]
        rfl
      refine pure_ (i := 5) (N := some 17) (v := ?_) (a' := ?_) #[true, true, true, true, false, true, false, false, false, false, false, false, false, false, false, false, false] rfl rfl (by kernel_rfl) (fun _ _ _ h => h) (Or.inl ⟨by rfl, ?_⟩) ?_ ?_
      rotate_left
      · intro w'
        go_simp
        with_reducible rfl
      rotate_left
      · simp only [Act.put, List.setIfInBounds_toArray, List.set_cons_zero, List.set_cons_succ]
        rfl
      refine pure_ (i := 6) (N := some 18) (v := ?_) (a' := ?_) #[true, true, true, true, false, true, true, false, false, false, false, false, false, false, false, false, false] rfl rfl (by kernel_rfl) (fun _ _ _ h => h) (Or.inl ⟨by rfl, ?_⟩) ?_ ?_
      rotate_left
      · intro w'
        go_simp
        with_reducible rfl
      rotate_left
      · simp only [Act.put, List.setIfInBounds_toArray, List.set_cons_zero, List.set_cons_succ]
        rfl
      refine pure_ (i := 7) (N := some 19) (v := ?_) (a' := ?_) #[true, true, true, true, false, true, true, true, false, false, false, false, false, false, false, false, false] rfl rfl (by kernel_rfl) (fun _ _ _ h => h) (Or.inl ⟨by rfl, ?_⟩) ?_ ?_
      rotate_left
      · intro w'
        go_simp
        with_reducible rfl
      rotate_left
      · simp only [Act.put, List.setIfInBounds_toArray, List.set_cons_zero, List.set_cons_succ]
        rfl
      refine pure_ (i := 8) (N := some 20) (v := ?_) (a' := ?_) #[true, true, true, true, false, true, true, true, true, false, false, false, false, false, false, false, false] rfl rfl (by kernel_rfl) (fun _ _ _ h => h) (Or.inl ⟨by rfl, ?_⟩) ?_ ?_
      rotate_left
      · intro w'
        go_simp
        with_reducible rfl
      rotate_left
      · simp only [Act.put, List.setIfInBounds_toArray, List.set_cons_zero, List.set_cons_succ]
        rfl
      refine take_ (i := 4) (N := some 16) (v := ?_) (a' := ?_) #[true, true, true, true, true, true, true, true, true, false, false, false, false, false, false, false, false] rfl rfl (by kernel_rfl) (fun _ _ _ h => h) (Or.inl ⟨by rfl, ?_⟩) hHeld ?_ ?_
      rotate_left
      · rintro w' ⟨s0, s1⟩
        go_simp
        with_reducible rfl
      rotate_left
      · simp only [Act.put, List.setIfInBounds_toArray, List.set_cons_zero, List.set_cons_succ]
        rfl
      refine take_ (i := 9) (N := some 21) (v := ?_) (a' := ?_) #[true, true, true, true, true, true, true, true, true, true, false, false, false, false, false, false, false] rfl rfl (by kernel_rfl) (fun _ _ _ h => h) (Or.inl ⟨by rfl, ?_⟩) hHeld ?_ ?_
      rotate_left
      · rintro w' ⟨s0, s1⟩
        go_simp
        with_reducible rfl
      rotate_left
      · simp only [Act.put, List.setIfInBounds_toArray, List.set_cons_zero, List.set_cons_succ]
        rfl
      refine pure_ (i := 10) (N := some 22) (v := ?_) (a' := ?_) #[true, true, true, true, true, true, true, true, true, true, true, false, false, false, false, false, false] rfl rfl (by kernel_rfl) (fun _ _ _ h => h) (Or.inl ⟨by rfl, ?_⟩) ?_ ?_
      rotate_left
      · intro w'
        go_simp
        with_reducible rfl
      rotate_left
      · simp only [Act.put, List.setIfInBounds_toArray, List.set_cons_zero, List.set_cons_succ]
        rfl
      refine pure_ (i := 11) (N := some 23) (v := ?_) (a' := ?_) #[true, true, true, true, true, true, true, true, true, true, true, true, false, false, false, false, false] rfl rfl (by kernel_rfl) (fun _ _ _ h => h) (Or.inl ⟨by rfl, ?_⟩) ?_ ?_
      rotate_left
      · intro w'
        go_simp
        with_reducible rfl
      rotate_left
      · simp only [Act.put, List.setIfInBounds_toArray, List.set_cons_zero, List.set_cons_succ]
        rfl
      refine pure_ (i := 12) (N := some 24) (v := ?_) (a' := ?_) #[true, true, true, true, true, true, true, true, true, true, true, true, true, false, false, false, false] rfl rfl (by kernel_rfl) (fun _ _ _ h => h) (Or.inl ⟨by rfl, ?_⟩) ?_ ?_
      rotate_left
      · intro w'
        go_simp
        rw [if_neg hsum.out]
      rotate_left
      · simp only [Act.put, List.setIfInBounds_toArray, List.set_cons_zero, List.set_cons_succ]
        rfl
      refine pure_ (i := 13) (N := some 25) (v := ?_) (a' := ?_) #[true, true, true, true, true, true, true, true, true, true, true, true, true, true, false, false, false] rfl rfl (by kernel_rfl) (fun _ _ _ h => h) (Or.inl ⟨by rfl, ?_⟩) ?_ ?_
      rotate_left
      · intro w'
        go_simp
        with_reducible rfl
      rotate_left
      · simp only [Act.put, List.setIfInBounds_toArray, List.set_cons_zero, List.set_cons_succ]
        rfl
      refine pure_ (i := 14) (N := some 26) (v := ?_) (a' := ?_) #[true, true, true, true, true, true, true, true, true, true, true, true, true, true, true, false, false] rfl rfl (by kernel_rfl) (fun _ _ _ h => h) (Or.inl ⟨by rfl, ?_⟩) ?_ ?_
      rotate_left
      · intro w'
        go_simp
        with_reducible rfl
      rotate_left
      · simp only [Act.put, List.setIfInBounds_toArray, List.set_cons_zero, List.set_cons_succ]
        rfl
      refine pure_ (i := 15) (N := some 27) (v := ?_) (a' := ?_) #[true, true, true, true, true, true, true, true, true, true, true, true, true, true, true, true, false] rfl rfl (by kernel_rfl) (fun _ _ _ h => h) (Or.inl ⟨by rfl, ?_⟩) ?_ ?_
      rotate_left
      · intro w'
        go_simp
        with_reducible rfl
      rotate_left
      · simp only [Act.put, List.setIfInBounds_toArray, List.set_cons_zero, List.set_cons_succ]
        rfl
      refine last_ (i := 16) (N := none) #[true, true, true, true, true, true, true, true, true, true, true, true, true, true, true, true, true] rfl rfl (by kernel_rfl) (by decide) (fun K hK => ?_)
      have ed1 : W.drew.cell? ⟨c, 1, none⟩ = some (.string d) := e1
      have fd1 : W.drew.frozen? ⟨c, 1, none⟩ = false := f1
      refine skip_ (w1 := ?_) (by rfl) rfl ?_ ?_
      rotate_left
      · go_simp
        rfl
      refine hK.out _ _ ?_
      clear hK K
      refine done_ (by kernel_rfl) ?_
      have hCb := Aside0.mk (Cl_dig (Cl_drew hCa.out) (d ++ Utf8.encode dg))
      clear ed1 fd1 e1 f1 e5 hHeld
      go_upto_region 4 with (first | (go_at_call 90; refine (Anal_in k w0 _ A0 _ l0 HR0.out HC0.out _ _ _ _ _ _ _ hCb.out false x y z hA.out).mono ?_; rintro e W1 ⟨rfl, hC1⟩; replace hC1 := Aside0.mk hC1))
      obtain ⟨W2, hW2⟩ : ∃ W2, W1.alloc (.cells #[.int .i64 x, .int .i64 y] 26) = W2 := ⟨_, rfl⟩
      rw [hW2]
      have k2 : W2.heap[W1.heap.size]? = some (.cells #[.int .i64 x, .int .i64 y] 26 (0, 0)) := by rw [← hW2]; exact blk_new _ _
      have hC2 := Aside0.mk (show Cl w0 c A0 l0.length c0 kd cs dg W2 1 (d ++ Utf8.encode dg) [actK 2] by rw [← hW2]; exact Cl_below hC1.out (below_alloc (Below.refl _ _) _))
      obtain ⟨b2, hb2⟩ : ∃ b2, W1.heap.size = b2 := ⟨_, rfl⟩
      rw [hb2] at k2 ⊢
      have eb0 : W2.cell? ⟨b2, 0, none⟩ = some (.int .i64 x) := (blk_cell k2 0).trans rfl
      have eb1 : W2.cell? ⟨b2, 1, none⟩ = some (.int .i64 y) := (blk_cell k2 1).trans rfl
      replace k2 := Aside0.mk k2
      clear hW2 hb2 hC1
      replace ho := ho.out
      by_cases hx : x = 1
      · subst hx
        rw [if_pos rfl] at ho
        replace ho := Aside0.mk (Option.some.inj ho).symm
        go_wp2_with (first | (go_at_call 89; refine (Timer_in _ _ _ _ _ _ _ _ _ _ _ _ hC2.out (by decide)).mono ?_; rintro e W3 ⟨rfl, hC3⟩; replace hC3 := Aside0.mk hC3))
        exact bodyPost_ret (v := .tuple #[]) (results_none rfl _ _ _) rfl ⟨rfl, Cl_eq hC3.out ho.out⟩
      · rw [if_neg hx] at ho
        have hxb : (x == 1) = false := beq_eq_false_iff_ne.2 hx
        have hxd : decide (x = 1) = false := decide_eq_false hx
        clear hx
        cases hi : inB l0 x y with
        | false => rw [hi, if_neg (by decide)] at ho; cases ho
        | true =>
          rw [hi, if_pos rfl] at ho
          replace ho := Aside0.mk (Option.some.inj ho).symm
          replace hi := Aside0.mk hi
          go_wp2_with (first | (go_at_call 88; refine (Ask_keep _ _ _ _ _ _ _ _ _ _ _ _ (Cl_below hC2.out (below_alloc (Below.refl _ _) _)) (by decide) _ _ rfl [10] (blk_new _ _) (by decide) 1 (by decide) b2 _ (blk_alloc k2.out _)).mono ?_; rintro e W3 ⟨rfl, hC3, k3⟩; have eb30 : W3.cell? ⟨b2, 0, none⟩ = some (.int .i64 x) := (blk_cell k3 0).trans rfl; have eb31 : W3.cell? ⟨b2, 1, none⟩ = some (.int .i64 y) := (blk_cell k3 1).trans rfl; replace hC3 := Aside0.mk hC3; clear k3) | (go_at_call 91; refine (Decide_in w0 _ A0 _ l0 HR0.out HC0.out _ _ _ _ _ _ _ hC3.out (by decide) x y (inB_out hi.out) o ho.out).mono ?_; rintro e W4 ⟨rfl, hC4⟩; replace hC4 := Aside0.mk hC4))
          exact bodyPost_end (v := .tuple #[]) (results_none rfl _ _ _) rfl ⟨rfl, hC4.out⟩
    · rw [if_neg hd] at ho
      have hse := empty_flag hd
      replace ho := Aside0.mk ho
      clear hd
      go_enter Tryd.func68, Tryd.ntmps68
      go_upto_region 2 with (fail)
      obtain ⟨W, hW⟩ : ∃ W, w = W := ⟨_, rfl⟩
      rw [hW]
      rw [hW] at hC0
      have hCa := hC0
      obtain ⟨e1, f1, e5⟩ : W.cell? ⟨c, 1, none⟩ = some (.string d) ∧ W.frozen? ⟨c, 1, none⟩ = false ∧ W.cell? ⟨c, 5, none⟩ = some (.int .u8 dg) := by
        obtain ⟨v, h1, _⟩ := hCa.out
        exact ⟨(blk_cell h1 1).trans rfl, blk_frozen h1 1, (blk_cell h1 5).trans rfl⟩
      clear ec1
      refine start_ (n := 17) (S := fun w' => w'.cell? ⟨c, 1, none⟩ = some (.string d) ∧ w'.cell? ⟨c, 5, none⟩ = some (.int .u8 dg)) (ds := [16]) #[false, false, false, false, false, false, false, false, false, false, false, false, false, false, false, false, false] (by kernel_rfl) rfl rfl ⟨e1, e5⟩ (fun hHeld => ?_)
      refine pure_ (i := 0) (N := some 12) (v := ?_) (a' := ?_) #[true, false, false, false, false, false, false, false, false, false, false, false, false, false, false, false, false] rfl rfl (by kernel_rfl) (fun _ _ _ h => h) (Or.inl ⟨by rfl, ?_⟩) ?_ ?_
      rotate_left
      · intro w'
        go_simp
        with_reducible rfl
      rotate_left
      · simp only [Act.put, List.setIfInBounds_toArray, List.set_cons_zero, List.set_cons_succ]
        rfl
      refine pure_ (i := 1) (N := some 13) (v := ?_) (a' := ?_) #[true, true, false, false, false, false, false, false, false, false, false, false, false, false, false, false, false] rfl rfl (by kernel_rfl) (fun _ _ _ h => h) (Or.inl ⟨by rfl, ?_⟩) ?_ ?_
      rotate_left
      · intro w'
        go_simp
        with_reducible rfl
      rotate_left
      · simp only [Act.put, List.setIfInBounds_toArray, List.set_cons_zero, List.set_cons_succ]
        rfl
      refine pure_ (i := 2) (N := some 14) (v := ?_) (a' := ?_) #[true, true, true, false, false, false, false, false, false, false, false, false, false, false, false, false, false] rfl rfl (by kernel_rfl) (fun _ _ _ h => h) (Or.inl ⟨by rfl, ?_⟩) ?_ ?_
      rotate_left
      · intro w'
        go_simp
        with_reducible rfl
      rotate_left
      · simp only [Act.put, List.setIfInBounds_toArray, List.set_cons_zero, List.set_cons_succ]
        rfl
      refine pure_ (i := 3) (N := some 15) (v := ?_) (a' := ?_) #[true, true, true, true, false, false, false, false, false, false, false, false, false, false, false, false, false] rfl rfl (by kernel_rfl) (fun _ _ _ h => h) (Or.inl ⟨by rfl, ?_⟩) ?_ ?_
      rotate_left
      · intro w'
        go_simp
        with_reducible rfl
      rotate_left
      · simp only [Act.put, List.setIfInBounds_toArray, List.set_cons_zero, List.set_cons_succ]
        rfl
      refine pure_ (i := 5) (N := some 17) (v := ?_) (a' := ?_) #[true, true, true, true, false, true, false, false, false, false, false, false, false, false, false, false, false] rfl rfl (by kernel_rfl) (fun _ _ _ h => h) (Or.inl ⟨by rfl, ?_⟩) ?_ ?_
      rotate_left
      · intro w'
        go_simp
        with_reducible rfl
      rotate_left
      · simp only [Act.put, List.setIfInBounds_toArray, List.set_cons_zero, List.set_cons_succ]
        rfl
      refine pure_ (i := 6) (N := some 18) (v := ?_) (a' := ?_) #[true, true, true, true, false, true, true, false, false, false, false, false, false, false, false, false, false] rfl rfl (by kernel_rfl) (fun _ _ _ h => h) (Or.inl ⟨by rfl, ?_⟩) ?_ ?_
      rotate_left
      · intro w'
        go_simp
        with_reducible rfl
      rotate_left
      · simp only [Act.put, List.setIfInBounds_toArray, List.set_cons_zero, List.set_cons_succ]
        rfl
      refine pure_ (i := 7) (N := some 19) (v := ?_) (a' := ?_) #[true, true, true, true, false, true, true, true, false, false, false, false, false, false, false, false, false] rfl rfl (by kernel_rfl) (fun _ _ _ h => h) (Or.inl ⟨by rfl, ?_⟩) ?_ ?_
      rotate_left
      · intro w'
        go_simp
        with_reducible rfl
      rotate_left
      · simp only [Act.put, List.setIfInBounds_toArray, List.set_cons_zero, List.set_cons_succ]
        rfl
      refine pure_ (i := 8) (N := some 20) (v := ?_) (a' := ?_) #[true, true, true, true, false, true, true, true, true, false, false, false, false, false, false, false, false] rfl rfl (by kernel_rfl) (fun _ _ _ h => h) (Or.inl ⟨by rfl, ?_⟩) ?_ ?_
      rotate_left
      · intro w'
        go_simp
        with_reducible rfl
      rotate_left
      · simp only [Act.put, List.setIfInBounds_toArray, List.set_cons_zero, List.set_cons_succ]
        rfl
      refine take_ (i := 4) (N := some 16) (v := ?_) (a' := ?_) #[true, true, true, true, true, true, true, true, true, false, false, false, false, false, false, false, false] rfl rfl (by kernel_rfl) (fun _ _ _ h => h) (Or.inl ⟨by rfl, ?_⟩) hHeld ?_ ?_
      rotate_left
      · rintro w' ⟨s0, s1⟩
        go_simp
        with_reducible rfl
      rotate_left
      · simp only [Act.put, List.setIfInBounds_toArray, List.set_cons_zero, List.set_cons_succ]
        rfl
      refine take_ (i := 9) (N := some 21) (v := ?_) (a' := ?_) #[true, true, true, true, true, true, true, true, true, true, false, false, false, false, false, false, false] rfl rfl (by kernel_rfl) (fun _ _ _ h => h) (Or.inl ⟨by rfl, ?_⟩) hHeld ?_ ?_
      rotate_left
      · rintro w' ⟨s0, s1⟩
        go_simp
        with_reducible rfl
      rotate_left
      · simp only [Act.put, List.setIfInBounds_toArray, List.set_cons_zero, List.set_cons_succ]
        rfl
      refine pure_ (i := 10) (N := some 22) (v := ?_) (a' := ?_) #[true, true, true, true, true, true, true, true, true, true, true, false, false, false, false, false, false] rfl rfl (by kernel_rfl) (fun _ _ _ h => h) (Or.inl ⟨by rfl, ?_⟩) ?_ ?_
      rotate_left
      · intro w'
        go_simp
        with_reducible rfl
      rotate_left
      · simp only [Act.put, List.setIfInBounds_toArray, List.set_cons_zero, List.set_cons_succ]
        rfl
      refine pure_ (i := 11) (N := some 23) (v := ?_) (a' := ?_) #[true, true, true, true, true, true, true, true, true, true, true, true, false, false, false, false, false] rfl rfl (by kernel_rfl) (fun _ _ _ h => h) (Or.inl ⟨by rfl, ?_⟩) ?_ ?_
      rotate_left
      · intro w'
        go_simp
        with_reducible rfl
      rotate_left
      · simp only [Act.put, List.setIfInBounds_toArray, List.set_cons_zero, List.set_cons_succ]
        rfl
      refine pure_ (i := 12) (N := some 24) (v := ?_) (a' := ?_) #[true, true, true, true, true, true, true, true, true, true, true, true, true, false, false, false, false] rfl rfl (by kernel_rfl) (fun _ _ _ h => h) (Or.inl ⟨by rfl, ?_⟩) ?_ ?_
      rotate_left
      · intro w'
        go_simp
        rw [if_neg hsum.out]
      rotate_left
      · simp only [Act.put, List.setIfInBounds_toArray, List.set_cons_zero, List.set_cons_succ]
        rfl
      refine pure_ (i := 13) (N := some 25) (v := ?_) (a' := ?_) #[true, true, true, true, true, true, true, true, true, true, true, true, true, true, false, false, false] rfl rfl (by kernel_rfl) (fun _ _ _ h => h) (Or.inl ⟨by rfl, ?_⟩) ?_ ?_
      rotate_left
      · intro w'
        go_simp
        with_reducible rfl
      rotate_left
      · simp only [Act.put, List.setIfInBounds_toArray, List.set_cons_zero, List.set_cons_succ]
        rfl
      refine pure_ (i := 14) (N := some 26) (v := ?_) (a' := ?_) #[true, true, true, true, true, true, true, true, true, true, true, true, true, true, true, false, false] rfl rfl (by kernel_rfl) (fun _ _ _ h => h) (Or.inl ⟨by rfl, ?_⟩) ?_ ?_
      rotate_left
      · intro w'
        go_simp
        with_reducible rfl
      rotate_left
      · simp only [Act.put, List.setIfInBounds_toArray, List.set_cons_zero, List.set_cons_succ]
        rfl
      refine pure_ (i := 15) (N := some 27) (v := ?_) (a' := ?_) #[true, true, true, true, true, true, true, true, true, true, true, true, true, true, true, true, false] rfl rfl (by kernel_rfl) (fun _ _ _ h => h) (Or.inl ⟨by rfl, ?_⟩) ?_ ?_
      rotate_left
      · intro w'
        go_simp
        with_reducible rfl
      rotate_left
      · simp only [Act.put, List.setIfInBounds_toArray, List.set_cons_zero, List.set_cons_succ]
        rfl
      refine last_ (i := 16) (N := none) #[true, true, true, true, true, true, true, true, true, true, true, true, true, true, true, true, true] rfl rfl (by kernel_rfl) (by decide) (fun K hK => ?_)
      have ed1 : W.drew.cell? ⟨c, 1, none⟩ = some (.string d) := e1
      have fd1 : W.drew.frozen? ⟨c, 1, none⟩ = false := f1
      refine skip_ (w1 := ?_) (by rfl) rfl ?_ ?_
      rotate_left
      · go_simp
        rfl
      refine hK.out _ _ ?_
      clear hK K
      refine done_ (by kernel_rfl) ?_
      have hCb := Aside0.mk (Cl_dig (Cl_drew hCa.out) (d ++ Utf8.encode dg))
      clear ed1 fd1 e1 f1 e5 hHeld
      go_upto_region 4 with (first | (go_at_call 90; refine (Anal_in k w0 _ A0 _ l0 HR0.out HC0.out _ _ _ _ _ _ _ hCb.out false x y z hA.out).mono ?_; rintro e W1 ⟨rfl, hC1⟩; replace hC1 := Aside0.mk hC1))
      obtain ⟨W2, hW2⟩ : ∃ W2, W1.alloc (.cells #[.int .i64 x, .int .i64 y] 26) = W2 := ⟨_, rfl⟩
      rw [hW2]
      have k2 : W2.heap[W1.heap.size]? = some (.cells #[.int .i64 x, .int .i64 y] 26 (0, 0)) := by rw [← hW2]; exact blk_new _ _
      have hC2 := Aside0.mk (show Cl w0 c A0 l0.length c0 kd cs dg W2 1 (d ++ Utf8.encode dg) [] by rw [← hW2]; exact Cl_below hC1.out (below_alloc (Below.refl _ _) _))
      obtain ⟨b2, hb2⟩ : ∃ b2, W1.heap.size = b2 := ⟨_, rfl⟩
      rw [hb2] at k2 ⊢
      have eb0 : W2.cell? ⟨b2, 0, none⟩ = some (.int .i64 x) := (blk_cell k2 0).trans rfl
      have eb1 : W2.cell? ⟨b2, 1, none⟩ = some (.int .i64 y) := (blk_cell k2 1).trans rfl
      replace k2 := Aside0.mk k2
      clear hW2 hb2 hC1
      replace ho := ho.out
      by_cases hx : x = 1
      · subst hx
        rw [if_pos rfl] at ho
        replace ho := Aside0.mk (Option.some.inj ho).symm
        go_wp2_with (first | (go_at_call 89; refine (Timer_in _ _ _ _ _ _ _ _ _ _ _ _ hC2.out (by decide)).mono ?_; rintro e W3 ⟨rfl, hC3⟩; replace hC3 := Aside0.mk hC3))
        exact bodyPost_ret (v := .tuple #[]) (results_none rfl _ _ _) rfl ⟨rfl, Cl_eq hC3.out ho.out⟩
      · rw [if_neg hx] at ho
        have hxb : (x == 1) = false := beq_eq_false_iff_ne.2 hx
        have hxd : decide (x = 1) = false := decide_eq_false hx
        clear hx
        cases hi : inB l0 x y with
        | false => rw [hi, if_neg (by decide)] at ho; cases ho
        | true =>
          rw [hi, if_pos rfl] at ho
          replace ho := Aside0.mk (Option.some.inj ho).symm
          replace hi := Aside0.mk hi
          go_wp2_with (first | (go_at_call 88; refine (Ask_keep _ _ _ _ _ _ _ _ _ _ _ _ (Cl_below hC2.out (below_alloc (Below.refl _ _) _)) (by decide) _ _ rfl [10] (blk_new _ _) (by decide) 1 (by decide) b2 _ (blk_alloc k2.out _)).mono ?_; rintro e W3 ⟨rfl, hC3, k3⟩; have eb30 : W3.cell? ⟨b2, 0, none⟩ = some (.int .i64 x) := (blk_cell k3 0).trans rfl; have eb31 : W3.cell? ⟨b2, 1, none⟩ = some (.int .i64 y) := (blk_cell k3 1).trans rfl; replace hC3 := Aside0.mk hC3; clear k3) | (go_at_call 91; refine (Decide_in w0 _ A0 _ l0 HR0.out HC0.out _ _ _ _ _ _ _ hC3.out (by decide) x y (inB_out hi.out) o ho.out).mono ?_; rintro e W4 ⟨rfl, hC4⟩; replace hC4 := Aside0.mk hC4))
          exact bodyPost_end (v := .tuple #[]) (results_none rfl _ _ _) rfl ⟨rfl, hC4.out⟩
  · rw [if_neg hg] at ho
    cases ho

end Go.Proofs.YthknfclhkmehgaaDoor.Fn
