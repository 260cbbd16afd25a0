/-
  origin.caller's plain methods: the walks.
-/
import Derived.Test.YthknfclhkmehgaaDoorECall
namespace Go.Proofs.YthknfclhkmehgaaDoor.Fn
open Go.RowKit Go.Proofs.YthknfclhkmehgaaDoorW.PrintWords Go.Proofs.YthknfclhkmehgaaDoorW.PrintLast Go.Proofs.YthknfclhkmehgaaDoorW.PrintMore
set_option linter.unusedVariables false
set_option linter.unusedSimpArgs false


set_option maxHeartbeats 4000000 in
set_option maxRecDepth 100000 in
theorem OffHook_in (w0 : World) (c : Nat) (A0 : Option Addr) (n c0 : Nat) (kd cs dg : Int) (w : World) (st : Int) (d : ByteArray) (h : Cl w0 c A0 n c0 kd cs dg w st d []) :
    Calls Tryd.prog 66 #[.pointer (some ⟨c, 0, none⟩)] w fun e w' => e = .returned (.tuple #[]) ∧ Cl w0 c A0 n c0 kd cs dg w' 1 ⟨#[]⟩ [actK 1, ⟨9, 0, ⟨#[]⟩, 10⟩] := by
  have hu45 := Tryd.underlying45
  have hu62 := Tryd.underlying62
  have hu99 := Tryd.underlying99
  have hC0 := Aside0.mk h
  clear h
  go_enter Tryd.func66, Tryd.ntmps66
  go_wp2_with (first | (go_at_call 87; refine (Enter_in w0 c A0 n c0 kd cs dg _ _ _ _ hC0.out 1).mono ?_; rintro e W1 ⟨rfl, hC1⟩; replace hC1 := Aside0.mk hC1) | (go_at_call 88; refine (Ask_in w0 c A0 n c0 kd cs dg _ _ _ _ (Cl_below hC1.out (below_alloc (Below.refl _ _) _)) (by decide) _ _ rfl [1] (blk_new _ _) (by decide) 1 (by decide)).mono ?_; rintro e W2 ⟨rfl, hC2⟩; replace hC2 := Aside0.mk hC2) | (go_at_call 89; refine (Timer_in w0 c A0 n c0 kd cs dg _ _ _ _ hC2.out (by decide)).mono ?_; rintro e W3 ⟨rfl, hC3⟩; replace hC3 := Aside0.mk hC3))
  exact bodyPost_end (v := .tuple #[]) (results_none rfl _ _ _) rfl ⟨rfl, hC3.out⟩

set_option maxHeartbeats 4000000 in
set_option maxRecDepth 100000 in
theorem Abandon_in (w0 : World) (c : Nat) (A0 : Option Addr) (n c0 : Nat) (kd cs dg : Int) (w : World) (st : Int) (d : ByteArray) (h : Cl w0 c A0 n c0 kd cs dg w st d []) :
    Calls Tryd.prog 70 #[.pointer (some ⟨c, 0, none⟩)] w fun e w' => e = .returned (.tuple #[]) ∧ Cl w0 c A0 n c0 kd cs dg w' 0 ⟨#[]⟩ [actK 10, actK 2] := by
  have hu45 := Tryd.underlying45
  have hu62 := Tryd.underlying62
  have hu99 := Tryd.underlying99
  have hC0 := Aside0.mk h
  clear h
  go_enter Tryd.func70, Tryd.ntmps70
  go_wp2_with (first | (go_at_call 88; refine (Ask_in w0 c A0 n c0 kd cs dg _ _ _ _ (Cl_below hC0.out (below_alloc (Below.refl _ _) _)) (by decide) _ _ rfl [10, 2] (blk_new _ _) (by decide) 2 (by decide)).mono ?_; rintro e W1 ⟨rfl, hC1⟩; replace hC1 := Aside0.mk hC1) | (go_at_call 87; refine (Enter_in w0 c A0 n c0 kd cs dg _ _ _ _ hC1.out 0).mono ?_; rintro e W2 ⟨rfl, hC2⟩; replace hC2 := Aside0.mk hC2))
  exact bodyPost_end (v := .tuple #[]) (results_none rfl _ _ _) rfl ⟨rfl, hC2.out⟩

set_option maxHeartbeats 4000000 in
set_option maxRecDepth 100000 in
theorem Ignore_in (w0 : World) (c : Nat) (A0 : Option Addr) (n c0 : Nat) (kd cs dg : Int) (w : World) (st : Int) (d : ByteArray) (h : Cl w0 c A0 n c0 kd cs dg w st d []) :
    Calls Tryd.prog 67 #[.pointer (some ⟨c, 0, none⟩)] w fun e w' => e = .returned (.tuple #[]) ∧ Cl w0 c A0 n c0 kd cs dg w' st d [] := by
  have hu45 := Tryd.underlying45
  have hu62 := Tryd.underlying62
  have hu99 := Tryd.underlying99
  have hC0 := Aside0.mk h
  clear h
  go_enter Tryd.func67, Tryd.ntmps67
  go_wp2
  exact bodyPost_end (v := .tuple #[]) (results_none rfl _ _ _) rfl ⟨rfl, hC0.out⟩

set_option maxHeartbeats 4000000 in
set_option maxRecDepth 100000 in
theorem Ringing_in (w0 : World) (c : Nat) (A0 : Option Addr) (n c0 : Nat) (kd cs dg : Int) (w : World) (st : Int) (d : ByteArray) (h : Cl w0 c A0 n c0 kd cs dg w st d []) :
    Calls Tryd.prog 71 #[.pointer (some ⟨c, 0, none⟩)] w fun e w' => e = .returned (.tuple #[]) ∧ Cl w0 c A0 n c0 kd cs dg w' 3 ⟨#[]⟩ [actK 4] := by
  have hu45 := Tryd.underlying45
  have hu62 := Tryd.underlying62
  have hu99 := Tryd.underlying99
  have hC0 := Aside0.mk h
  clear h
  go_enter Tryd.func71, Tryd.ntmps71
  go_wp2_with (first | (go_at_call 88; refine (Ask_in w0 c A0 n c0 kd cs dg _ _ _ _ (Cl_below hC0.out (below_alloc (Below.refl _ _) _)) (by decide) _ _ rfl [4] (blk_new _ _) (by decide) 1 (by decide)).mono ?_; rintro e W1 ⟨rfl, hC1⟩; replace hC1 := Aside0.mk hC1) | (go_at_call 87; refine (Enter_in w0 c A0 n c0 kd cs dg _ _ _ _ hC1.out 3).mono ?_; rintro e W2 ⟨rfl, hC2⟩; replace hC2 := Aside0.mk hC2))
  exact bodyPost_end (v := .tuple #[]) (results_none rfl _ _ _) rfl ⟨rfl, hC2.out⟩

set_option maxHeartbeats 4000000 in
set_option maxRecDepth 100000 in
theorem Answer_in (w0 : World) (c : Nat) (A0 : Option Addr) (n c0 : Nat) (kd cs dg : Int) (w : World) (st : Int) (d : ByteArray) (h : Cl w0 c A0 n c0 kd cs dg w st d []) :
    Calls Tryd.prog 72 #[.pointer (some ⟨c, 0, none⟩)] w fun e w' => e = .returned (.tuple #[]) ∧ Cl w0 c A0 n c0 kd cs dg w' 4 ⟨#[]⟩ [actK 2, actK 8] := by
  have hu45 := Tryd.underlying45
  have hu62 := Tryd.underlying62
  have hu99 := Tryd.underlying99
  have hC0 := Aside0.mk h
  clear h
  go_enter Tryd.func72, Tryd.ntmps72
  go_wp2_with (first | (go_at_call 88; refine (Ask_in w0 c A0 n c0 kd cs dg _ _ _ _ (Cl_below hC0.out (below_alloc (Below.refl _ _) _)) (by decide) _ _ rfl [2, 8] (blk_new _ _) (by decide) 2 (by decide)).mono ?_; rintro e W1 ⟨rfl, hC1⟩; replace hC1 := Aside0.mk hC1) | (go_at_call 87; refine (Enter_in w0 c A0 n c0 kd cs dg _ _ _ _ hC1.out 4).mono ?_; rintro e W2 ⟨rfl, hC2⟩; replace hC2 := Aside0.mk hC2))
  exact bodyPost_end (v := .tuple #[]) (results_none rfl _ _ _) rfl ⟨rfl, hC2.out⟩

set_option maxHeartbeats 4000000 in
set_option maxRecDepth 100000 in
theorem HangUp_in (w0 : World) (c : Nat) (A0 : Option Addr) (n c0 : Nat) (kd cs dg : Int) (w : World) (st : Int) (d : ByteArray) (h : Cl w0 c A0 n c0 kd cs dg w st d []) :
    Calls Tryd.prog 74 #[.pointer (some ⟨c, 0, none⟩)] w fun e w' => e = .returned (.tuple #[]) ∧ Cl w0 c A0 n c0 kd cs dg w' 0 ⟨#[]⟩ [actK 2, ⟨7, 16, ⟨#[]⟩, 0⟩] := by
  have hu45 := Tryd.underlying45
  have hu62 := Tryd.underlying62
  have hu99 := Tryd.underlying99
  have hC0 := Aside0.mk h
  clear h
  go_enter Tryd.func74, Tryd.ntmps74
  go_wp2_with (first | (go_at_call 88; refine (Ask_in w0 c A0 n c0 kd cs dg _ _ _ _ (Cl_below hC0.out (below_alloc (Below.refl _ _) _)) (by decide) _ _ rfl [2] (blk_new _ _) (by decide) 1 (by decide)).mono ?_; rintro e W1 ⟨rfl, hC1⟩; replace hC1 := Aside0.mk hC1; obtain ⟨v, h1, h2, h3, h4⟩ := hC1.out; have e6 : W1.cell? ⟨c, 6, none⟩ = some v := (blk_cell h1 6).trans rfl; replace h1 := Aside0.mk h1; replace h2 := Aside0.mk h2; replace h3 := Aside0.mk h3; replace h4 := Aside0.mk h4) | ((with_reducible refine gate_builtin (b := .append) (xs := #[.tmp 9, .tmp 11]) rfl ?_); at_builtin; refine Kd.R_append k62 (w0 := w0) w0.heap.size rfl (.tmp 9) (.tmp 11) 48 62 (.agg #[(.int .i64 0), (.int .i64 0), (.string ⟨#[]⟩), (.int .i64 0)]) 40 rfl Tryd.underlying48 info62 rfl (by decide) (by omega) v ([] ++ [2].map actK) (⟨7, 16, ⟨#[]⟩, 0⟩ : S62) [.int .i64 7, .int .i64 16, .string ⟨#[]⟩, .int .i64 0] (fun _ => True) (fun _ => False) rfl rfl ?aP (fun _ hk => hk.elim) ?aF ?aO ?aB ?aS ?aL ?_; (case aP => exact k62_mkM _ _ _ (⟨7, 16, ⟨#[]⟩, 0⟩ : S62)); (case aB => exact h3.out); (case aF => exact fun _ _ => trivial); (case aO => exact h2.out); (case aS => exact below_size h3.out); (case aL => decide); intro v1 W2 ho hb hg hat; obtain ⟨Ao, Lo, co, hv1⟩ := R_shape ho; subst hv1; obtain ⟨⟨e61, f61⟩, hC2⟩ := Cl_app h1.out h2.out h4.out ho hb hg; replace hC2 := Aside0.mk hC2; clear ho hb hg hat e6) | (go_at_call 87; refine (Enter_in w0 c A0 n c0 kd cs dg _ _ _ _ hC2.out 0).mono ?_; rintro e W3 ⟨rfl, hC3⟩; replace hC3 := Aside0.mk hC3))
  exact bodyPost_end (v := .tuple #[]) (results_none rfl _ _ _) rfl ⟨rfl, hC3.out⟩

set_option maxHeartbeats 4000000 in
set_option maxRecDepth 100000 in
theorem Leave_in (w0 : World) (c : Nat) (A0 : Option Addr) (n c0 : Nat) (kd cs dg : Int) (w : World) (st : Int) (d : ByteArray) (h : Cl w0 c A0 n c0 kd cs dg w st d []) :
    Calls Tryd.prog 75 #[.pointer (some ⟨c, 0, none⟩)] w fun e w' => e = .returned (.tuple #[]) ∧ Cl w0 c A0 n c0 kd cs dg w' 0 ⟨#[]⟩ [actK 2] := by
  have hu45 := Tryd.underlying45
  have hu62 := Tryd.underlying62
  have hu99 := Tryd.underlying99
  have hC0 := Aside0.mk h
  clear h
  go_enter Tryd.func75, Tryd.ntmps75
  go_wp2_with (first | (go_at_call 88; refine (Ask_in w0 c A0 n c0 kd cs dg _ _ _ _ (Cl_below hC0.out (below_alloc (Below.refl _ _) _)) (by decide) _ _ rfl [2] (blk_new _ _) (by decide) 1 (by decide)).mono ?_; rintro e W1 ⟨rfl, hC1⟩; replace hC1 := Aside0.mk hC1) | (go_at_call 87; refine (Enter_in w0 c A0 n c0 kd cs dg _ _ _ _ hC1.out 0).mono ?_; rintro e W2 ⟨rfl, hC2⟩; replace hC2 := Aside0.mk hC2))
  exact bodyPost_end (v := .tuple #[]) (results_none rfl _ _ _) rfl ⟨rfl, hC2.out⟩

set_option maxHeartbeats 4000000 in
set_option maxRecDepth 100000 in
theorem Released_in (w0 : World) (c : Nat) (A0 : Option Addr) (n c0 : Nat) (kd cs dg : Int) (w : World) (st : Int) (d : ByteArray) (h : Cl w0 c A0 n c0 kd cs dg w st d []) :
    Calls Tryd.prog 73 #[.pointer (some ⟨c, 0, none⟩)] w fun e w' => e = .returned (.tuple #[]) ∧ Cl w0 c A0 n c0 kd cs dg w' 5 ⟨#[]⟩ [⟨3, cs, ⟨#[]⟩, 0⟩] := by
  have hu45 := Tryd.underlying45
  have hu62 := Tryd.underlying62
  have hu99 := Tryd.underlying99
  have hC0 := Aside0.mk h
  have e4 : w.cell? ⟨c, 4, none⟩ = some (.int .i64 cs) := by obtain ⟨v, h1, _⟩ := h; exact (blk_cell h1 4).trans rfl
  have hu47 := Tryd.underlying47
  clear h
  go_enter Tryd.func73, Tryd.ntmps73
  go_wp2_with (first | (go_at_call 92; refine (Tone_in w0 c A0 n c0 kd cs dg _ _ _ _ hC0.out (by decide) cs).mono ?_; rintro e W1 ⟨rfl, hC1⟩; replace hC1 := Aside0.mk hC1))
  exact bodyPost_end (v := .tuple #[]) (results_none rfl _ _ _) rfl ⟨rfl, hC1.out⟩

end Go.Proofs.YthknfclhkmehgaaDoor.Fn
