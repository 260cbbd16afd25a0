/-
  trie.Extends over the iterator's contract.
-/
import Derived.Test.YthknfclhkmehgaaDoorEEnt
namespace Go.Proofs.YthknfclhkmehgaaDoor.Fn
open Go.RowKit Go.Shelf Go.Proofs.YthknfclhkmehgaaDoorW.PrintWords Go.Proofs.YthknfclhkmehgaaDoorW.PrintLast Go.Proofs.YthknfclhkmehgaaDoorW.PrintMore
set_option linter.unusedVariables false
set_option linter.unusedSimpArgs false

attribute [local go_sem] Oper.semAt_some

/-- The depth of the nodes: what the recursion counts down. -/
def Deep (l0 : List S77) (dep : Nat → Nat) : Prop := (∀ i d, i < l0.length → d < 10 → Tr.kid (tt l0) i d ≠ 0 → dep (Tr.kid (tt l0) i d).toNat = dep i + 1) ∧ ∀ i, i < l0.length → dep i ≤ 15

/-- Does one of the entries at a node and below it go beyond s. -/
def longerE (l : List (Tr.Str × Int)) (n : Nat) : Bool := l.any fun e => decide (n < e.1.length)

open Classical in
noncomputable def trie_Extends.f (k : Nat) (l0 : List S77) (s : ByteArray) : Option Bool :=
  (trie_Check.f k l0).bind fun e => if e ≠ 0 then some false else (trie_digits.f s).bind fun d => if d = false then some false else
    (trie_node.f k l0 s).bind fun nd => if nd.2 = false then some false else
      if ∃ dep, Deep l0 dep ∧ dep nd.1.toNat = s.size ∧ nd.1 < l0.length ∧ Good l0 then some (longerE (Tr.ents (tt l0) (16 - s.size) nd.1.toNat s.data.toList) s.size) else none
theorem trie_Extends.mono : ∀ a0 a1 k, LeO (trie_Extends.f k a0 a1) (trie_Extends.f (k + 1) a0 a1) := fun a0 _ k => LeO.bind (trie_Check.mono a0 k) (fun _ => LeO.refl _)

set_option maxRecDepth 100000 in
set_option maxHeartbeats 4000000 in
theorem Extends_in (n : Nat) (hn : 3 ≤ n) (A0 : Option Addr) (c0 : Nat) (l0 : List S77) (s : ByteArray) (w : World)
    (hr0 : Kd.C k77 w A0 l0.length l0) (hc0 : l0.length ≤ c0) (k : Nat) (e : Int) (he : trie_Check.f k l0 = some e) (r : Bool)
    (hr : (e ≠ 0 ∧ r = false) ∨ (e = 0 ∧ trie_digits.f s = some false ∧ r = false) ∨ (e = 0 ∧ trie_digits.f s = some true ∧ ∃ at_, trie_node.f k l0 s = some (at_, false) ∧ r = false) ∨
      (e = 0 ∧ trie_digits.f s = some true ∧ ∃ at_, trie_node.f k l0 s = some (at_, true) ∧ 0 ≤ at_ ∧ at_ < l0.length ∧ Good l0 ∧ ∃ dep, Deep l0 dep ∧ dep at_.toNat = s.size ∧ r = longerE (Tr.ents (tt l0) (16 - s.size) at_.toNat s.data.toList) s.size)) :
    CallsIn Fence.wide n Tryd.prog 20 #[.agg #[.slice A0 l0.length c0], .string s] w fun e w' => e = .returned (.bool r) ∧ Below w.heap.size w w' := by
  have hu24 := Tryd.underlying32
  have h1 : 1 ≤ n := by omega
  obtain ⟨W4, hW4⟩ : ∃ W4, ((w.alloc (Obj.cells #[.slice A0 l0.length c0] 32)).alloc (Obj.cells #[.string s] 9)).alloc (Obj.cells #[.bool false] 4) = W4 := ⟨_, rfl⟩
  have hB4 : Below w.heap.size w W4 := by
    rw [← hW4]
    repeat apply below_alloc
    exact Below.refl _ _
  have hz4 : W4.heap.size = w.heap.size + 3 := by rw [← hW4]; simp
  have hC4 : ∀ W, Below W4.heap.size W4 W → W.cell? ⟨w.heap.size, 0, none⟩ = some (.slice A0 l0.length c0) ∧ W.cell? ⟨w.heap.size + 1, 0, none⟩ = some (.string s) ∧ (W.cell? ⟨w.heap.size + 1 + 1, 0, none⟩ = some (.bool false) ∧ W.frozen? ⟨w.heap.size + 1 + 1, 0, none⟩ = false) := by
    intro W hB
    have hb : ∀ p : Addr, p.block < w.heap.size + 3 → W.cell? p = W4.cell? p ∧ W.frozen? p = W4.frozen? p := fun p hp => ⟨hB.cell (by omega), World.frozen?_of_block (hB.block _ (by omega))⟩
    refine ⟨(hb _ (by simp)).1.trans (by rw [← hW4]; simp [go_sem]), (hb _ (by simp)).1.trans (by rw [← hW4]; simp [go_sem]), ⟨(hb _ (by simp)).1.trans (by rw [← hW4]; simp [go_sem]), (hb _ (by simp)).2.trans (by rw [← hW4]; simp [go_sem])⟩⟩
  have hcheck : CallsIn Fence.wide (n - 1) Tryd.prog 43 _ _ _ := callsIn_wide.2 (trie_Check.calls k A0 c0 l0 e W4 (Kd.C_below hr0 hB4) hc0 he)
  obtain ⟨a0, a1, ⟨a2, a2f⟩⟩ := hC4 W4 (Below.refl _ _)
  have hfin : ∀ (W : World) (a : Act) (b : Bool), Below w.heap.size w W → (W.cell? ⟨w.heap.size + 1 + 1, 0, none⟩).isSome = true → a.tmps[4]? = some (.pointer (some ⟨w.heap.size + 1 + 1, 0, none⟩)) → a.defers = [] →
      bodyPostM Fence.wide n Tryd.prog Tryd.f20 (fun e w' => e = .returned (.bool b) ∧ Below w.heap.size w w') Exit.ret a (W.setCell ⟨w.heap.size + 1 + 1, 0, none⟩ (.bool b)) := by
    intro W a b hB hc ht hd
    have hcell : (W.setCell ⟨w.heap.size + 1 + 1, 0, none⟩ (.bool b)).cell? ⟨w.heap.size + 1 + 1, 0, none⟩ = some (.bool b) := World.cell?_setCell_same' _ _ _ hc
    have hBs : Below w.heap.size w (W.setCell ⟨w.heap.size + 1 + 1, 0, none⟩ (.bool b)) := hB.setCell (by simp; omega) _
    generalize W.setCell ⟨w.heap.size + 1 + 1, 0, none⟩ (.bool b) = W9 at hcell hBs ⊢
    obtain ⟨tmps, defers⟩ := a
    dsimp only at ht hd
    subst hd
    refine ⟨.bool b, ?_, rfl, hBs⟩
    simp [results, Tryd.f20, go_sem, hcell, ht]
  rcases hr with ⟨hne, rfl⟩ | ⟨rfl, hd, rfl⟩ | ⟨rfl, hd, at_, hnd, rfl⟩ | ⟨rfl, hd, at_, hnd, hat0, hat1, hg, dep, hdp, hds, rfl⟩
  · have hnb : (e != 0) = true := by simpa using hne
    refine callsIn_of_wp_marks Tryd.func20 rfl trivial ?_ rfl
    simp only [Tryd.ntmps20, List.size_toArray, List.length_cons, List.length_nil, Nat.reduceAdd, Nat.reduceSub, Array.replicate_succ, Array.replicate_zero, List.push_toArray, List.append_toArray, List.nil_append, List.cons_append]
    gi_wp2_with ((try refine ⟨trivial, ?_⟩); gi_at_call 43; (try rw [hW4]); refine hcheck.mono ?_; rintro e' W5 ⟨rfl, hB5⟩; obtain ⟨d0, d1, ⟨d2, d2f⟩⟩ := hC4 W5 hB5)
    refine ⟨trivial, ?_⟩
    gi_wp2
    exact hfin W5 _ false (hB4.trans (hB5.mono hB4.size)) (by rw [d2]; rfl) rfl rfl
  · have hdig : ∀ W, CallsIn Fence.wide (n - 1) Tryd.prog 44 _ _ _ := fun W => callsIn_wide.2 (trie_digits.calls s false W hd)
    refine callsIn_of_wp_marks Tryd.func20 rfl trivial ?_ rfl
    simp only [Tryd.ntmps20, List.size_toArray, List.length_cons, List.length_nil, Nat.reduceAdd, Nat.reduceSub, Array.replicate_succ, Array.replicate_zero, List.push_toArray, List.append_toArray, List.nil_append, List.cons_append]
    gi_wp2_with (first
      | ((try refine ⟨trivial, ?_⟩); gi_at_call 43; (try rw [hW4]); refine hcheck.mono ?_; rintro e' W5 ⟨rfl, hB5⟩; obtain ⟨d0, d1, ⟨d2, d2f⟩⟩ := hC4 W5 hB5)
      | ((try refine ⟨trivial, ?_⟩); gi_at_call 44; refine (hdig W5).mono ?_; rintro e' W6 ⟨rfl, hB6⟩; replace hB6 := below_then hB5 hB5.size hB6; clear hB5; obtain ⟨d0, d1, ⟨d2, d2f⟩⟩ := hC4 W6 hB6))
    exact hfin W6 _ false (hB4.trans (hB6.mono hB4.size)) (by rw [d2]; rfl) rfl rfl
  · have hdig : ∀ W, CallsIn Fence.wide (n - 1) Tryd.prog 44 _ _ _ := fun W => callsIn_wide.2 (trie_digits.calls s true W hd)
    refine callsIn_of_wp_marks Tryd.func20 rfl trivial ?_ rfl
    simp only [Tryd.ntmps20, List.size_toArray, List.length_cons, List.length_nil, Nat.reduceAdd, Nat.reduceSub, Array.replicate_succ, Array.replicate_zero, List.push_toArray, List.append_toArray, List.nil_append, List.cons_append]
    gi_wp2_with (first
      | ((try refine ⟨trivial, ?_⟩); gi_at_call 43; (try rw [hW4]); refine hcheck.mono ?_; rintro e' W5 ⟨rfl, hB5⟩; obtain ⟨d0, d1, ⟨d2, d2f⟩⟩ := hC4 W5 hB5)
      | ((try refine ⟨trivial, ?_⟩); gi_at_call 44; refine (hdig W5).mono ?_; rintro e' W6 ⟨rfl, hB6⟩; replace hB6 := below_then hB5 hB5.size hB6; clear hB5; obtain ⟨d0, d1, ⟨d2, d2f⟩⟩ := hC4 W6 hB6)
      | ((try refine ⟨trivial, ?_⟩); gi_at_call 46; refine (callsIn_wide.2 (trie_node.calls k A0 c0 l0 s at_ false W6 (Kd.C_below hr0 (hB4.trans (hB6.mono hB4.size))) hc0 hnd)).mono ?_; rintro e' W7 ⟨rfl, hB7⟩; replace hB7 := below_then hB6 hB6.size hB7; clear hB6; obtain ⟨d0, d1, ⟨d2, d2f⟩⟩ := hC4 W7 hB7))
    exact hfin W7 _ false (hB4.trans (hB7.mono hB4.size)) (by rw [d2]; rfl) rfl rfl
  · have hdig : ∀ W, CallsIn Fence.wide (n - 1) Tryd.prog 44 _ _ _ := fun W => callsIn_wide.2 (trie_digits.calls s true W hd)
    refine callsIn_of_wp_marks Tryd.func20 rfl trivial ?_ rfl
    simp only [Tryd.ntmps20, List.size_toArray, List.length_cons, List.length_nil, Nat.reduceAdd, Nat.reduceSub, Array.replicate_succ, Array.replicate_zero, List.push_toArray, List.append_toArray, List.nil_append, List.cons_append]
    gi_wp2_with (first
      | ((try refine ⟨trivial, ?_⟩); gi_at_call 43; (try rw [hW4]); refine hcheck.mono ?_; rintro e' W5 ⟨rfl, hB5⟩; obtain ⟨d0, d1, ⟨d2, d2f⟩⟩ := hC4 W5 hB5)
      | ((try refine ⟨trivial, ?_⟩); gi_at_call 44; refine (hdig W5).mono ?_; rintro e' W6 ⟨rfl, hB6⟩; replace hB6 := below_then hB5 hB5.size hB6; clear hB5; obtain ⟨d0, d1, ⟨d2, d2f⟩⟩ := hC4 W6 hB6)
      | ((try refine ⟨trivial, ?_⟩); gi_at_call 46; refine (callsIn_wide.2 (trie_node.calls k A0 c0 l0 s at_ true W6 (Kd.C_below hr0 (hB4.trans (hB6.mono hB4.size))) hc0 hnd)).mono ?_; rintro e' W7 ⟨rfl, hB7⟩; replace hB7 := below_then hB6 hB6.size hB7; clear hB6; obtain ⟨d0, d1, ⟨d2, d2f⟩⟩ := hC4 W7 hB7)
      | ((try refine ⟨trivial, ?_⟩); gi_at_call 47; refine (entries_in (n - 1) A0 l0.length c0 at_ s _).mono ?_; rintro e w' ⟨rfl, rfl⟩))
    obtain ⟨W8, hW8⟩ : ∃ W8, ((W7.alloc (Obj.cells #[.slice A0 l0.length c0] 32)).alloc (Obj.cells #[.int .i64 at_] 3)).alloc (Obj.cells #[.string s] 9) = W8 := ⟨_, rfl⟩
    have hB8 : Below W7.heap.size W7 W8 := by
      rw [← hW8]
      exact below_alloc (below_alloc (below_alloc (Below.refl _ _) _) _) _
    have hz8 : W8.heap.size = W7.heap.size + 3 := by rw [← hW8]; simp
    have hz7 := hB7.size
    have hc4 : W8.heap[W7.heap.size]? = some (.cells #[.slice A0 l0.length c0] 32 (0, 0)) := by rw [← hW8]; exact blk_alloc (blk_alloc (World.alloc_heap_new W7 _) _) _
    have hc5 : W8.cell? ⟨W7.heap.size + 1, 0, none⟩ = some (.int .i64 at_) := by rw [← hW8]; simp [go_sem]
    have hc6 : W8.cell? ⟨W7.heap.size + 1 + 1, 0, none⟩ = some (.string s) := by rw [← hW8]; simp [go_sem]
    try rw [hW8]
    clear hW8
    have hB48 := below_then hB7 hB7.size hB8
    obtain ⟨x0, x1, ⟨x2, x2f⟩⟩ := hC4 W8 hB48
    have hBw8 : Below w.heap.size w W8 := hB4.trans (hB48.mono hB4.size)
    have hseq := entries_stops (n - 1) W7.heap.size (W7.heap.size + 1) (W7.heap.size + 1 + 1) w A0 c0 l0 (fun t => t = 4) at_ s hr0 hc0 hg.1 hg.2.2 dep hdp.1 hdp.2 (by simp) (by simp) (by simp) (by simp) hat0 hat1 hds.symm W8 hBw8 hc4 hc5 hc6
    rw [hds] at hseq
    obtain ⟨es, hes⟩ : ∃ es, es = Tr.ents (tt l0) (16 - s.size) at_.toNat s.data.toList := ⟨_, rfl⟩
    rw [← hes] at hseq
    replace hes := Aside0.mk hes
    refine wpIn_rangeFunc_ownF rfl h1 (gf := 62) (lb := #[.pointer (some ⟨W7.heap.size, 0, none⟩), .pointer (some ⟨W7.heap.size + 1, 0, none⟩), .pointer (some ⟨W7.heap.size + 1 + 1, 0, none⟩)]) rfl trivial (enters_of Tryd.func62 (by kernel_rfl) rfl)
      hseq (fun h k => KpT.trans h k)
      (fun W l o o' hl ho hc hw => ⟨(Below.refl _ _).grown (grownBy_putObj' W l o') (by have := (Array.getElem?_eq_some_iff.1 ho).1; have := hBw8.size; omega) (fun k e => by cases e; have := hBw8.size; omega), fun k cs t x hk _ => (World.putObj_heap_other (by rintro rfl; rw [ho] at hk; cases hk; cases hc)).trans hk⟩)
      (Below.refl _ _) (fun _ => rfl)
      (fun pre W => ((W.cell? ⟨w.heap.size + 1, 0, none⟩ = some (.string s) ∧ (W.cell? ⟨w.heap.size + 1 + 1, 0, none⟩ = some (.bool false) ∧ W.frozen? ⟨w.heap.size + 1 + 1, 0, none⟩ = false)) ∧ longerE pre s.size = false) ∧ Below w.heap.size w W)
      (fun c pre W => (c = .ret ∧ W.cell? ⟨w.heap.size + 1 + 1, 0, none⟩ = some (.bool true) ∧ longerE pre s.size = true) ∧ Below w.heap.size w W)
      (OwnFrom.and (Own.from (fun pre A B row hs' hg' hr => ⟨⟨cell_kept hs'.1.1 hg' hr, cell_kept hs'.1.2.1 hg' hr, (frozen_kept hs'.1.2.1 hg' hr).trans hs'.1.2.2⟩, hs'.2⟩) _) (ownFrom_below (Nat.le_refl _) (by omega)))
      (fun c => OwnFrom.and (Own.from (fun pre A B row hs' hg' hr => ⟨hs'.1, cell_kept hs'.2.1 hg' hr, hs'.2.2⟩) _) (ownFrom_below (Nat.le_refl _) (by omega)))
      ⟨⟨⟨x1, x2, x2f⟩, rfl⟩, hBw8⟩
      (fun x => { tmps := #[.agg #[.slice A0 l0.length c0], .string s, .pointer (some ⟨w.heap.size, 0, none⟩), .pointer (some ⟨w.heap.size + 1, 0, none⟩), .pointer (some ⟨w.heap.size + 1 + 1, 0, none⟩), .int .i64 at_, .bool true, .string ⟨x.1.toArray⟩,
          .agg #[.slice A0 l0.length c0], .int .i64 0, .bool false, .bool false, .string s, .bool true, .bool false, .bool false, .tuple #[.int .i64 at_, .bool true], .agg #[.slice A0 l0.length c0], .string s, .tuple #[.int .i64 at_, .bool true], .int .i64 at_, .bool true, .bool true, .bool false, .agg #[.slice A0 l0.length c0], .int .i64 at_, .string s,
          .func (.func 62) #[] #[.pointer (some ⟨W7.heap.size, 0, none⟩), .pointer (some ⟨W7.heap.size + 1, 0, none⟩), .pointer (some ⟨W7.heap.size + 1 + 1, 0, none⟩)], .string ⟨x.1.toArray⟩, .int .i64 x.2, undef, undef, undef, undef, undef], defers := [] }) ?assign ?body ?done ?stop
    case assign =>
      intro l x W K hK
      gi_wp2_with (rw [Oper.semAt_eq _ _ _ (fun c h => by cases h)]; go_simp; try go_bits)
      exact hK
    case body =>
      rintro l pre x W ⟨⟨⟨y1, y2, y2f⟩, hlo⟩, hBW⟩ _
      have hsn : longerE (pre ++ [x]) s.size = decide (s.size < x.1.length) := by
        unfold longerE at hlo ⊢
        rw [List.any_append, hlo]
        simp
      replace hsn := Aside0.mk hsn
      replace hlo := Aside0.mk hlo
      by_cases hx : s.size < x.1.length
      · have hxt : ((s.size : Int) < (x.1.length : Int)) = True := eq_true (by omega)
        gi_wp2_with (rw [Oper.semAt_eq _ _ _ (fun c h => by cases h)]; go_simp; try go_bits)
        refine ⟨KeepsOthers.setCell _ _ _, ⟨rfl, World.cell?_setCell_same' _ _ _ (by rw [y2]; rfl), ?_⟩, hBW.setCell (by simp; omega) _⟩
        rw [hsn.out]
        simpa using hx
      · have hxt : ((s.size : Int) < (x.1.length : Int)) = False := eq_false (by omega)
        gi_wp2_with (rw [Oper.semAt_eq _ _ _ (fun c h => by cases h)]; go_simp; try go_bits)
        refine ⟨KeepsOthers.refl _, KpT.refl _ _ _, ⟨⟨y1, y2, y2f⟩, ?_⟩, hBW⟩
        rw [hsn.out]
        simpa using hx
    case done =>
      rintro D xs W hD rfl ⟨⟨⟨y1, y2, y2f⟩, hlo⟩, hBW⟩ hK
      replace hlo := Aside0.mk hlo
      gi_wp2
      have hK' := (KeepsOthers.setCell W ⟨w.heap.size + 1 + 1, 0, none⟩ (.bool false)).same D _ hK rfl
      have e1 : (W.setCell ⟨w.heap.size + 1 + 1, 0, none⟩ (.bool false)).cell? ⟨w.heap.size + 1 + 1, 0, none⟩ = some (.bool false) := World.cell?_setCell_same' _ _ _ (by rw [y2]; rfl)
      have hBe : Below w.heap.size w (W.setCell ⟨w.heap.size + 1 + 1, 0, none⟩ (.bool false)) := hBW.setCell (by simp; omega) _
      generalize W.setCell ⟨w.heap.size + 1 + 1, 0, none⟩ (.bool false) = W9 at hK' e1 hBe ⊢
      refine ⟨by simp, .inl ⟨_, _, rfl, run_takeDeferred hK', ?_⟩⟩
      have g1 := cell_kept e1 (grownBy_putObj' _ D (.deferred none)) (fun r e => by cases e; exact ⟨_, hK', rfl⟩)
      refine ⟨.bool false, ?_, by rw [← hes.out, hlo.out], hBe.grown (grownBy_putObj' _ D (.deferred none)) hBe.size (fun k e => by cases e; omega)⟩
      simp [results, Tryd.f20, go_sem, g1]
    case stop =>
      rintro D c pre W hD hSp ⟨⟨rfl, hcell, hlo⟩, hBW⟩ hK
      replace hlo := Aside0.mk hlo
      gi_wp2
      refine ⟨by simp, .inl ⟨_, _, rfl, run_takeDeferred hK, ?_⟩⟩
      have g1 := cell_kept hcell (grownBy_putObj' _ D (.deferred none)) (fun r e => by cases e; exact ⟨_, hK, rfl⟩)
      have hfull : longerE es s.size = true := by
        obtain ⟨q, hq⟩ := hSp
        rw [← hq]
        have h := hlo.out
        unfold longerE at h ⊢
        rw [List.any_append, h, Bool.true_or]
      refine ⟨.bool true, ?_, by rw [← hes.out, hfull], hBW.grown (grownBy_putObj' _ D (.deferred none)) hBW.size (fun k e => by cases e; omega)⟩
      simp [results, Tryd.f20, go_sem, g1]

theorem trie_Extends.calls (k : Nat) (A0 : Option Addr) (c0 : Nat) (l0 : List S77) (a1 : ByteArray) (r : Bool) (w : World) (hr0 : Kd.C k77 w A0 l0.length l0) (hc0 : l0.length ≤ c0) (h : trie_Extends.f k l0 a1 = some r) :
    Calls Tryd.prog 20 #[.agg #[.slice A0 l0.length c0], .string a1] w fun e w' => e = .returned (.bool r) ∧ Below w.heap.size w w' := by
  unfold trie_Extends.f at h
  cases he : trie_Check.f k l0 with
  | none => rw [he] at h; cases h
  | some e =>
    rw [he, Option.bind_some] at h
    have fin := fun hr => callsIn_wide.1 (Extends_in 3 (Nat.le_refl _) A0 c0 l0 a1 w hr0 hc0 k e he r hr)
    by_cases hne : e ≠ 0
    · rw [if_pos hne] at h
      exact fin (.inl ⟨hne, (Option.some.inj h).symm⟩)
    · rw [if_neg hne] at h
      have he0 : e = 0 := by omega
      cases hd : trie_digits.f a1 with
      | none => rw [hd] at h; cases h
      | some d =>
        rw [hd, Option.bind_some] at h
        cases d with
        | false => exact fin (.inr (.inl ⟨he0, hd, (Option.some.inj h).symm⟩))
        | true =>
          rw [if_neg (by simp)] at h
          cases hn : trie_node.f k l0 a1 with
          | none => rw [hn] at h; cases h
          | some nd =>
            rw [hn, Option.bind_some] at h
            obtain ⟨at_, ok⟩ := nd
            cases ok with
            | false => exact fin (.inr (.inr (.inl ⟨he0, hd, at_, hn, (Option.some.inj h).symm⟩)))
            | true =>
              rw [if_neg (by simp)] at h
              split at h
              case isFalse => cases h
              case isTrue hg =>
                obtain ⟨dep, h1, h2, h3, h4⟩ := hg
                have h0 : 0 ≤ at_ := by
                  unfold trie_node.f at hn
                  split at hn
                  case isFalse => cases hn
                  case isTrue =>
                    have h5 := congrArg Prod.fst (Option.some.inj hn)
                    dsimp only at h5
                    omega
                exact fin (.inr (.inr (.inr ⟨he0, hd, at_, hn, h0, h3, h4, dep, h1, h2, (Option.some.inj h).symm⟩)))

end Go.Proofs.YthknfclhkmehgaaDoor.Fn
