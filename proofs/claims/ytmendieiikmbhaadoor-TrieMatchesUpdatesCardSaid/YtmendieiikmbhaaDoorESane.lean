/-
  What the trie's functions return at the concrete tries of crossbarlaw07.sane: plain reckoning.
  crossbarlaw07.sane: the example of the chapter, walked with the functions' contracts.
-/
import Derived.Test.YtmendieiikmbhaaDoorEPut
import Derived.Test.YtmendieiikmbhaaDoorENode
import Derived.Test.YtmendieiikmbhaaDoorELong
import Derived.Test.YtmendieiikmbhaaDoorEExt
import Derived.Test.YtmendieiikmbhaaDoorEEnr
import Derived.Test.YtmendieiikmbhaaDoorFn11
import Derived.Deep.Cut
namespace Go.Proofs.YtmendieiikmbhaaDoor.Fn
open Go.RowKit Go.Proofs.YtmendieiikmbhaaDoorW.PrintWords Go.Proofs.YtmendieiikmbhaaDoorW.PrintLast Go.Proofs.YtmendieiikmbhaaDoorW.PrintMore
set_option linter.unusedVariables false
set_option linter.unusedSimpArgs false

theorem inn_of (T : Tr.Trie) (h : (List.range T.length).all (fun i => (List.range 10).all fun d => decide (0 ≤ Tr.kid T i d ∧ Tr.kid T i d < T.length)) = true) : Inn T := by
  intro i d hi hd
  have h1 := List.all_eq_true.1 h i (List.mem_range.2 hi)
  have h2 := List.all_eq_true.1 h1 d (List.mem_range.2 hd)
  exact of_decide_eq_true h2

def T0 : List S71 := [z71]
def sA : ByteArray := ⟨#[52, 57]⟩
def sB : ByteArray := ⟨#[52, 57, 56, 57]⟩
def sC : ByteArray := ⟨#[52]⟩
def putS (l : List S71) (s : ByteArray) (v : Int) : List S71 := (growS l 0 s.data.toList).1.set (growS l 0 s.data.toList).2.toNat (setVl (rd_T71 (growS l 0 s.data.toList).1 (growS l 0 s.data.toList).2) v)
def T1 := putS T0 sA 1
def T2 := putS T1 sB 2
def T3 := putS T2 sC 3
theorem good0 : Good T0 := ⟨inn_of _ (by decide), by decide, by decide⟩
theorem good1 : Good T1 := ⟨inn_of _ (by decide +kernel), by decide +kernel, by decide +kernel⟩
theorem good2 : Good T2 := ⟨inn_of _ (by decide +kernel), by decide +kernel, by decide +kernel⟩
theorem good3 : Good T3 := ⟨inn_of _ (by decide +kernel), by decide +kernel, by decide +kernel⟩
theorem c0 : trie_checked.f 100 T0 sA = some 0 := by kernel_rfl
theorem c1 : trie_checked.f 100 T1 sB = some 0 := by kernel_rfl
theorem c2 : trie_checked.f 100 T2 sC = some 0 := by kernel_rfl
theorem c3 : trie_checked.f 100 T3 ⟨#[52, 120]⟩ = some 60 := by kernel_rfl
theorem k3 : trie_Check.f 100 T3 = some 0 := by kernel_rfl

theorem goodS_of (s : ByteArray) (h : s.size ≤ 9223372036854775807) (hd : digB s = true) : GoodS s := ⟨h, (digB_iff s).1 hd⟩
theorem put1 : trie_Put.f 100 T0 sA 1 = some (T1, 0) := by
  unfold trie_Put.f
  rw [c0, Option.bind_some, if_neg (by decide), if_neg (by decide), if_pos ⟨good0, goodS_of _ (by decide) (by decide), by decide⟩, if_neg (by decide +kernel)]
  rfl
theorem put2 : trie_Put.f 100 T1 sB 2 = some (T2, 0) := by
  unfold trie_Put.f
  rw [c1, Option.bind_some, if_neg (by decide), if_neg (by decide), if_pos ⟨good1, goodS_of _ (by decide) (by decide), by decide⟩, if_neg (by decide +kernel)]
  rfl
theorem put3 : trie_Put.f 100 T2 sC 3 = some (T3, 0) := by
  unfold trie_Put.f
  rw [c2, Option.bind_some, if_neg (by decide), if_neg (by decide), if_pos ⟨good2, goodS_of _ (by decide) (by decide), by decide⟩, if_neg (by decide +kernel)]
  rfl
theorem put4 : trie_Put.f 100 T3 ⟨#[52, 120]⟩ 1 = some ([], 60) := by
  unfold trie_Put.f
  rw [c3, Option.bind_some, if_pos (by decide)]
theorem long1 : trie_Longest.f 100 T3 ⟨#[52, 57, 56, 57, 49]⟩ = some (2, 4, true) := by
  unfold trie_Longest.f
  rw [k3, Option.bind_some, if_neg (by decide), show trie_digits.f ⟨#[52, 57, 56, 57, 49]⟩ = some true from rfl, Option.bind_some, if_neg (by decide), if_pos ⟨good3, goodS_of _ (by decide) (by decide)⟩]
  kernel_rfl
theorem long2 : trie_Longest.f 100 T3 ⟨#[52, 55, 49, 49]⟩ = some (3, 1, true) := by
  unfold trie_Longest.f
  rw [k3, Option.bind_some, if_neg (by decide), show trie_digits.f ⟨#[52, 55, 49, 49]⟩ = some true from rfl, Option.bind_some, if_neg (by decide), if_pos ⟨good3, goodS_of _ (by decide) (by decide)⟩]
  kernel_rfl
theorem deep_of (l : List S71) (dep : Nat → Nat) (h : (List.range l.length).all (fun i => (List.range 10).all fun d => decide (Tr.kid (tt l) i d ≠ 0 → dep (Tr.kid (tt l) i d).toNat = dep i + 1)) = true) (h2 : (List.range l.length).all (fun i => decide (dep i ≤ 15)) = true) : Deep l dep := by
  refine ⟨fun i d hi hd => ?_, fun i hi => of_decide_eq_true (List.all_eq_true.1 h2 i (List.mem_range.2 hi))⟩
  exact of_decide_eq_true (List.all_eq_true.1 (List.all_eq_true.1 h i (List.mem_range.2 hi)) d (List.mem_range.2 hd))
theorem deep3 : Deep T3 id := deep_of _ _ (by decide +kernel) (by decide +kernel)
theorem ext1 : trie_Extends.f 100 T3 ⟨#[52, 57, 56]⟩ = some true := by
  unfold trie_Extends.f
  rw [k3, Option.bind_some, if_neg (by decide), show trie_digits.f ⟨#[52, 57, 56]⟩ = some true from rfl, Option.bind_some, if_neg (by decide)]
  have hn : trie_node.f 100 T3 ⟨#[52, 57, 56]⟩ = some (3, true) := by
    unfold trie_node.f
    rw [if_pos ⟨good3, goodS_of _ (by decide) (by decide)⟩]
    kernel_rfl
  rw [hn, Option.bind_some, if_neg (by decide)]
  refine (if_pos ⟨id, deep3, rfl, ?_, good3⟩).trans ?_
  · kernel_rfl
  · decide +kernel
theorem ext2 : trie_Extends.f 100 T3 ⟨#[52, 57, 56, 57]⟩ = some false := by
  unfold trie_Extends.f
  rw [k3, Option.bind_some, if_neg (by decide), show trie_digits.f ⟨#[52, 57, 56, 57]⟩ = some true from rfl, Option.bind_some, if_neg (by decide)]
  have hn : trie_node.f 100 T3 ⟨#[52, 57, 56, 57]⟩ = some (4, true) := by
    unfold trie_node.f
    rw [if_pos ⟨good3, goodS_of _ (by decide) (by decide)⟩]
    kernel_rfl
  rw [hn, Option.bind_some, if_neg (by decide)]
  refine (if_pos ⟨id, deep3, rfl, ?_, good3⟩).trans ?_
  · kernel_rfl
  · decide +kernel
def E3 : List S39 := (Tr.entries (tt T3)).map toS
theorem ents3 : trie_Entries.f 100 T3 = some E3 := by
  unfold trie_Entries.f
  rw [k3, Option.bind_some, if_neg (by decide), if_pos ⟨good3, ⟨id, deep3, rfl⟩, by decide +kernel⟩]
  rfl
theorem e3_length : E3.length = 3 := by decide +kernel
theorem t3_length : T3.length = 5 := by decide +kernel

end Go.Proofs.YtmendieiikmbhaaDoor.Fn
namespace Go.Proofs.YtmendieiikmbhaaDoor.Fn
open Go.RowKit Go.Proofs.YtmendieiikmbhaaDoorW.PrintWords Go.Proofs.YtmendieiikmbhaaDoorW.PrintLast Go.Proofs.YtmendieiikmbhaaDoorW.PrintMore
set_option linter.unusedVariables false
set_option linter.unusedSimpArgs false
def crossbarlaw07_sane.f : Option Bool := some true

set_option maxRecDepth 100000 in
set_option maxHeartbeats 1000000 in
theorem sane_in (w : World) (T0 T1 T2 T3 : List S71) (E3 : List S39) (new0 : trie_New.f = some T0) (put1 : trie_Put.f 100 T0 ⟨#[52, 57]⟩ 1 = some (T1, 0)) (put2 : trie_Put.f 100 T1 ⟨#[52, 57, 56, 57]⟩ 2 = some (T2, 0)) (put3 : trie_Put.f 100 T2 ⟨#[52]⟩ 3 = some (T3, 0)) (long1 : trie_Longest.f 100 T3 ⟨#[52, 57, 56, 57, 49]⟩ = some (2, 4, true)) (long2 : trie_Longest.f 100 T3 ⟨#[52, 55, 49, 49]⟩ = some (3, 1, true)) (put4 : trie_Put.f 100 T3 ⟨#[52, 120]⟩ 1 = some ([], 60)) (ext1 : trie_Extends.f 100 T3 ⟨#[52, 57, 56]⟩ = some true) (ext2 : trie_Extends.f 100 T3 ⟨#[52, 57, 56, 57]⟩ = some false) (ents3 : trie_Entries.f 100 T3 = some E3) (t3 : T3.length = 5) (e3 : E3.length = 3) :
    Calls Tryd.prog 15 #[] w fun e w' => e = .returned (.bool true) ∧ Below w.heap.size w w' := by
  have hu24 := Tryd.underlying24
  have h5 : ((T3.length : Int) == 5) = true := by rw [t3]; rfl
  have h3 : ((E3.length : Int) == 3) = true := by rw [e3]; rfl
  replace new0 := Aside0.mk new0
  replace put1 := Aside0.mk put1
  replace put2 := Aside0.mk put2
  replace put3 := Aside0.mk put3
  replace long1 := Aside0.mk long1
  replace long2 := Aside0.mk long2
  replace put4 := Aside0.mk put4
  replace ext1 := Aside0.mk ext1
  replace ext2 := Aside0.mk ext2
  replace ents3 := Aside0.mk ents3
  clear t3 e3
  go_enter Tryd.func15, Tryd.ntmps15
  go_upto_region 2 with (first | (go_at_call 25; refine (trie_New.calls T0 _ new0.out).mono ?_; rintro e W1 ⟨v0, rfl, hR0, hB1⟩; obtain ⟨A0, c0, rfl, hl0, hC0⟩ := Kd.R_reads hR0; clear hR0; replace hC0 := Aside0.mk hC0; replace hl0 := Aside0.mk hl0; replace hB1 := Aside0.mk hB1) | (go_at_call 26; refine (trie_Put.calls 100 A0 c0 T0 ⟨#[52, 57]⟩ 1 T1 0 _ (hC0.out) hl0.out put1.out).mono ?_; rintro e W2 ⟨v1, rfl, hR, hB2⟩; obtain ⟨A1, c1, rfl, hl1, hC1⟩ := Kd.R_reads hR; clear hR; replace hC1 := Aside0.mk hC1; replace hl1 := Aside0.mk hl1; replace hB2 := Aside0.mk hB2))
  go_upto_region 3 with (go_at_call 26; refine (trie_Put.calls 100 A1 c1 T1 ⟨#[52, 57, 56, 57]⟩ 2 T2 0 _ (Kd.C_alloc hC1.out _) hl1.out put2.out).mono ?_; rintro e W3 ⟨v2, rfl, hR, hB3⟩; obtain ⟨A2, c2, rfl, hl2, hC2⟩ := Kd.R_reads hR; clear hR; replace hC2 := Aside0.mk hC2; replace hl2 := Aside0.mk hl2; replace hB3 := Aside0.mk hB3)
  go_upto_region 4 with (go_at_call 26; refine (trie_Put.calls 100 A2 c2 T2 ⟨#[52]⟩ 3 T3 0 _ (Kd.C_alloc hC2.out _) hl2.out put3.out).mono ?_; rintro e W4 ⟨v3, rfl, hR, hB4⟩; obtain ⟨A3, c3, rfl, hl3, hC3⟩ := Kd.R_reads hR; clear hR; replace hC3 := Aside0.mk hC3; replace hl3 := Aside0.mk hl3; replace hB4 := Aside0.mk hB4)
  obtain ⟨WB, hWB⟩ : ∃ WB, W4.alloc (.cells #[.slice A3 T3.length c3] 24) = WB := ⟨_, rfl⟩
  have hcell : WB.heap[W4.heap.size]? = some (.cells #[.slice A3 T3.length c3] 24 (0, 0)) := by rw [← hWB]; exact blk_new _ _
  have hCB : Kd.C k71 WB A3 T3.length T3 := by rw [← hWB]; exact Kd.C_alloc hC3.out _
  have hBB : Below w.heap.size w WB := by
    rw [← hWB]
    exact below_alloc (below_step (below_alloc (below_step (below_alloc (below_step hB1.out hB2.out) _) hB3.out) _) hB4.out) _
  have hcl : WB.cell? ⟨W4.heap.size, 0, none⟩ = some (.slice A3 T3.length c3) := by simp [World.cell?, hcell]
  replace hcell := Aside0.mk hcell
  replace hCB := Aside0.mk hCB
  replace hBB := Aside0.mk hBB
  clear hB1 hB2 hB3 hB4 hC0 hC1 hC2 hC3 hl0 hl1 hl2
  go_upto_region 5 with (go_at_call 17; refine (trie_Longest.calls 100 A3 c3 T3 ⟨#[52, 57, 56, 57, 49]⟩ 2 4 true _ hCB.out hl3.out long1.out).mono ?_; rintro e W5 ⟨rfl, hB5⟩)
  have hcell5 := blk_below hcell.out hB5
  have hC5 := Kd.C_below hCB.out hB5
  have hB5' : Below w.heap.size w W5 := below_step hBB.out hB5
  have hcl5 : W5.cell? ⟨W4.heap.size, 0, none⟩ = some (.slice A3 T3.length c3) := by simp [World.cell?, hcell5]
  clear hcl hcell hCB hBB hB5
  replace hcell5 := Aside0.mk hcell5
  replace hC5 := Aside0.mk hC5
  replace hB5' := Aside0.mk hB5'
  go_upto_region 6 with (go_at_call 17; refine (trie_Longest.calls 100 A3 c3 T3 ⟨#[52, 55, 49, 49]⟩ 3 1 true _ hC5.out hl3.out long2.out).mono ?_; rintro e W6 ⟨rfl, hB6⟩)
  have hcell6 := blk_below hcell5.out hB6
  have hC6 := Kd.C_below hC5.out hB6
  have hB6' : Below w.heap.size w W6 := below_step hB5'.out hB6
  have hcl6 : W6.cell? ⟨W4.heap.size, 0, none⟩ = some (.slice A3 T3.length c3) := by simp [World.cell?, hcell6]
  clear hcl5 hcell5 hC5 hB5' hB6
  replace hcell6 := Aside0.mk hcell6
  replace hC6 := Aside0.mk hC6
  replace hB6' := Aside0.mk hB6'
  go_upto_region 7 with (go_at_call 26; refine (trie_Put.calls 100 A3 c3 T3 ⟨#[52, 120]⟩ 1 [] 60 _ hC6.out hl3.out put4.out).mono ?_; rintro e W7 ⟨v7, rfl, hR, hB7⟩; obtain ⟨A7, c7, rfl, _, _⟩ := Kd.R_reads hR; clear hR)
  have hcell7 := blk_below hcell6.out hB7
  have hC7 := Kd.C_below hC6.out hB7
  have hB7' : Below w.heap.size w W7 := below_step hB6'.out hB7
  have hcl7 : W7.cell? ⟨W4.heap.size, 0, none⟩ = some (.slice A3 T3.length c3) := by simp [World.cell?, hcell7]
  clear hcl6 hcell6 hC6 hB6' hB7
  replace hcell7 := Aside0.mk hcell7
  replace hC7 := Aside0.mk hC7
  replace hB7' := Aside0.mk hB7'
  obtain ⟨WC, hWC⟩ : ∃ WC, W7.alloc (.cells #[.slice A7 ([] : List S71).length c7] 24) = WC := ⟨_, rfl⟩
  have hcell8 : WC.heap[W4.heap.size]? = some (.cells #[.slice A3 T3.length c3] 24 (0, 0)) := by rw [← hWC]; exact blk_below hcell7.out (below_alloc (Below.refl _ _) _)
  have hC8 : Kd.C k71 WC A3 T3.length T3 := by rw [← hWC]; exact Kd.C_alloc hC7.out _
  have hB8 : Below w.heap.size w WC := by rw [← hWC]; exact below_alloc hB7'.out _
  have hcl8 : WC.cell? ⟨W4.heap.size, 0, none⟩ = some (.slice A3 T3.length c3) := by simp [World.cell?, hcell8]
  have dispose : ∀ W9, Below WC.heap.size WC W9 → W9.heap[W4.heap.size]? = some (.cells #[.slice A3 T3.length c3] 24 (0, 0)) ∧ Kd.C k71 W9 A3 T3.length T3 ∧ Below w.heap.size w W9 ∧ W9.cell? ⟨W4.heap.size, 0, none⟩ = some (.slice A3 T3.length c3) := by
    intro W9 hB
    have h1 := blk_below hcell8 hB
    exact ⟨h1, Kd.C_below hC8 hB, below_step hB8 hB, by simp [World.cell?, h1]⟩
  replace dispose := Aside0.mk dispose
  clear hcl7 hcell7 hC7 hB7' hcell8 hB8
  replace hC8 := Aside0.mk hC8
  rw [show (W7.alloc (.cells #[.slice A7 0 c7] 24)) = WC from hWC]
  go_wp2_with (go_at_call 9999; skip)
  refine (trie_Extends.calls 100 A3 c3 T3 ⟨#[52, 57, 56]⟩ true _ hC8.out hl3.out ext1.out).mono ?_
  rintro e W9 ⟨rfl, hB9⟩
  obtain ⟨_, hC9, _, hcl9⟩ := dispose.out W9 hB9
  replace hC9 := Aside0.mk hC9
  replace hB9 := Aside0.mk hB9
  clear hcl8 hC8
  dsimp only
  go_wp2_with (go_at_call 9999; skip)
  refine (trie_Extends.calls 100 A3 c3 T3 ⟨#[52, 57, 56, 57]⟩ false _ hC9.out hl3.out ext2.out).mono ?_
  rintro e W10 ⟨rfl, hB10⟩
  have hB10 := below_step hB9.out hB10
  obtain ⟨_, hC10, _, hcl10⟩ := dispose.out W10 hB10
  replace hC10 := Aside0.mk hC10
  replace hB10 := Aside0.mk hB10
  clear hcl9 hC9
  dsimp only
  go_wp2_with (go_at_call 9999; skip)
  refine (trie_Entries.calls 100 A3 c3 T3 E3 _ hC10.out hl3.out ents3.out).mono ?_
  rintro e W11 ⟨v11, rfl, hR, hB11⟩
  obtain ⟨A11, c11, rfl, _, _⟩ := Kd.R_reads hR
  clear hR
  have hB11 := below_step hB10.out hB11
  obtain ⟨_, _, hB11', _⟩ := dispose.out W11 hB11
  replace hB11' := Aside0.mk hB11'
  clear hB11 hcl10 hC10
  dsimp only
  go_wp2
  go_ret
  exact ⟨rfl, hB11'.out⟩

theorem new0 : trie_New.f = some T0 := rfl
theorem crossbarlaw07_sane.calls (r : Bool) (w : World) (h : crossbarlaw07_sane.f = some r) : Calls Tryd.prog 15 #[] w fun e w' => e = .returned (.bool r) ∧ Below w.heap.size w w' := by
  obtain rfl : true = r := Option.some.inj h
  exact sane_in w T0 T1 T2 T3 E3 new0 put1 put2 put3 long1 long2 put4 ext1 ext2 ents3 t3_length e3_length

end Go.Proofs.YtmendieiikmbhaaDoor.Fn
