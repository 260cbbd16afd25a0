/-
  trie.Longest over trie.path's contract.
-/
import Derived.Test.YthknfclhkmehgaaDoorENode
namespace Go.Proofs.YthknfclhkmehgaaDoor.Fn
open Go.RowKit Go.Shelf Go.Proofs.YthknfclhkmehgaaDoorW.PrintWords Go.Proofs.YthknfclhkmehgaaDoorW.PrintLast Go.Proofs.YthknfclhkmehgaaDoorW.PrintMore
set_option linter.unusedVariables false
set_option linter.unusedSimpArgs false

attribute [local go_sem] Oper.semAt_some

/-- What Longest has found when the pairs of l have come. -/
def foundL (T : Tr.Trie) (l : List (Nat × Nat)) : Int × Int × Bool := match Tr.last T l with | none => (0, 0, false) | some x => (Tr.val T x.2, (x.1 : Int), true)
theorem foundL_snoc (T : Tr.Trie) (l : List (Nat × Nat)) (x : Nat × Nat) : foundL T (l ++ [x]) = if Tr.val T x.2 = 0 then foundL T l else (Tr.val T x.2, (x.1 : Int), true) := by
  unfold foundL Tr.last
  rw [List.foldl_append]
  simp only [List.foldl_cons, List.foldl_nil]
  by_cases h : Tr.val T x.2 = 0
  · rw [if_pos h, if_pos h]
  · rw [if_neg h, if_neg h]

open Classical in
noncomputable def trie_Longest.f (k : Nat) (l0 : List S77) (s : ByteArray) : Option (Int × Int × Bool) :=
  (trie_Check.f k l0).bind fun e => if e ≠ 0 then some (0, 0, false) else (trie_digits.f s).bind fun d => if d = false then some (0, 0, false) else
    if Good l0 ∧ GoodS s then some (foundL (tt l0) (Tr.way (tt l0) 0 0 s.data.toList)) else none
theorem trie_Longest.mono : ∀ a0 a1 k, LeO (trie_Longest.f k a0 a1) (trie_Longest.f (k + 1) a0 a1) := fun a0 _ k => LeO.bind (trie_Check.mono a0 k) (fun _ => LeO.refl _)

/-- Three cells side by side, set. -/
def set3 (W : World) (b : Nat) (v1 v2 v3 : Value) : World := ((W.setCell ⟨b + 1, 0, none⟩ v1).setCell ⟨b + 1 + 1, 0, none⟩ v2).setCell ⟨b + 1 + 1 + 1, 0, none⟩ v3
theorem set3_cells {W : World} {b : Nat} {u1 u2 u3 : Value} (v1 v2 v3 : Value) (h1 : W.cell? ⟨b + 1, 0, none⟩ = some u1) (h2 : W.cell? ⟨b + 1 + 1, 0, none⟩ = some u2) (h3 : W.cell? ⟨b + 1 + 1 + 1, 0, none⟩ = some u3) :
    (set3 W b v1 v2 v3).cell? ⟨b + 1, 0, none⟩ = some v1 ∧ (set3 W b v1 v2 v3).cell? ⟨b + 1 + 1, 0, none⟩ = some v2 ∧ (set3 W b v1 v2 v3).cell? ⟨b + 1 + 1 + 1, 0, none⟩ = some v3 := by
  refine ⟨?_, ?_, ?_⟩
  · exact (World.cell?_setCell_other _ _ _ _ (by simp)).trans ((World.cell?_setCell_other _ _ _ _ (by simp)).trans (World.cell?_setCell_same' _ _ _ (by rw [h1]; rfl)))
  · exact (World.cell?_setCell_other _ _ _ _ (by simp)).trans (World.cell?_setCell_same' _ _ _ (by rw [World.cell?_setCell_other _ _ _ _ (by simp), h2]; rfl))
  · exact World.cell?_setCell_same' _ _ _ (by rw [World.cell?_setCell_other _ _ _ _ (by simp), World.cell?_setCell_other _ _ _ _ (by simp), h3]; rfl)
theorem set3_frozen (W : World) (b : Nat) (v1 v2 v3 : Value) (p : Addr) : (set3 W b v1 v2 v3).frozen? p = W.frozen? p := by
  unfold set3
  rw [World.frozen?_setCell, World.frozen?_setCell, World.frozen?_setCell]
theorem set3_keeps (W : World) (b : Nat) (v1 v2 v3 : Value) : KeepsOthers W (set3 W b v1 v2 v3) := ((KeepsOthers.setCell _ _ _).trans (KeepsOthers.setCell _ _ _)).trans (KeepsOthers.setCell _ _ _)
theorem set3_below {w W : World} {n b : Nat} (h : Below n w W) (hb : n ≤ b + 1) (v1 v2 v3 : Value) : Below n w (set3 W b v1 v2 v3) := ((h.setCell (by simpa using hb) _).setCell (by simp; omega) _).setCell (by simp; omega) _
theorem set3_far (W : World) (b : Nat) (v1 v2 v3 : Value) {p : Addr} (hp : p.block ≤ b ∨ b + 3 < p.block) : (set3 W b v1 v2 v3).cell? p = W.cell? p :=
  (World.cell?_setCell_other _ _ _ _ (by rintro rfl; simp at hp; omega)).trans ((World.cell?_setCell_other _ _ _ _ (by rintro rfl; simp at hp; omega)).trans (World.cell?_setCell_other _ _ _ _ (by rintro rfl; simp at hp; omega)))

set_option maxRecDepth 100000 in
set_option maxHeartbeats 4000000 in
theorem Longest_in (n : Nat) (hn : 3 ≤ n) (A0 : Option Addr) (c0 : Nat) (l0 : List S77) (s : ByteArray) (w : World)
    (hr0 : Kd.C k77 w A0 l0.length l0) (hc0 : l0.length ≤ c0) (k : Nat) (e : Int) (he : trie_Check.f k l0 = some e) (r : Int × Int × Bool)
    (hr : (e ≠ 0 ∧ r = (0, 0, false)) ∨ (e = 0 ∧ trie_digits.f s = some false ∧ r = (0, 0, false)) ∨ (e = 0 ∧ trie_digits.f s = some true ∧ Good l0 ∧ GoodS s ∧ r = foundL (tt l0) (Tr.way (tt l0) 0 0 s.data.toList))) :
    CallsIn Fence.wide n Tryd.prog 19 #[.agg #[.slice A0 l0.length c0], .string s] w fun e w' =>
      e = .returned (.tuple #[.int .i64 r.1, .int .i64 r.2.1, .bool r.2.2]) ∧ Below w.heap.size w w' := by
  have hu24 := Tryd.underlying32
  have h1 : 1 ≤ n := by omega
  obtain ⟨W4, hW4⟩ : ∃ W4, ((((w.alloc (Obj.cells #[.slice A0 l0.length c0] 32))).alloc (Obj.cells #[.int .i64 0] 3)).alloc (Obj.cells #[.int .i64 0] 3)).alloc (Obj.cells #[.bool false] 4) = W4 := ⟨_, rfl⟩
  have hB4 : Below w.heap.size w W4 := by
    rw [← hW4]
    repeat apply below_alloc
    exact Below.refl _ _
  have hz4 : W4.heap.size = w.heap.size + 4 := by rw [← hW4]; simp
  have hC4 : ∀ W, Below W4.heap.size W4 W → W.cell? ⟨w.heap.size, 0, none⟩ = some (.slice A0 l0.length c0) ∧ (W.cell? ⟨w.heap.size + 1, 0, none⟩ = some (.int .i64 0) ∧ W.frozen? ⟨w.heap.size + 1, 0, none⟩ = false) ∧ (W.cell? ⟨w.heap.size + 1 + 1, 0, none⟩ = some (.int .i64 0) ∧ W.frozen? ⟨w.heap.size + 1 + 1, 0, none⟩ = false) ∧ (W.cell? ⟨w.heap.size + 1 + 1 + 1, 0, none⟩ = some (.bool false) ∧ W.frozen? ⟨w.heap.size + 1 + 1 + 1, 0, none⟩ = false) := by
    intro W hB
    have hb : ∀ p : Addr, p.block < w.heap.size + 4 → W.cell? p = W4.cell? p ∧ W.frozen? p = W4.frozen? p := fun p hp => ⟨hB.cell (by omega), World.frozen?_of_block (hB.block _ (by omega))⟩
    refine ⟨(hb _ (by simp)).1.trans (by rw [← hW4]; simp [go_sem]), ⟨(hb _ (by simp)).1.trans (by rw [← hW4]; simp [go_sem]), (hb _ (by simp)).2.trans (by rw [← hW4]; simp [go_sem])⟩, ⟨(hb _ (by simp)).1.trans (by rw [← hW4]; simp [go_sem]), (hb _ (by simp)).2.trans (by rw [← hW4]; simp [go_sem])⟩, ⟨(hb _ (by simp)).1.trans (by rw [← hW4]; simp [go_sem]), (hb _ (by simp)).2.trans (by rw [← hW4]; simp [go_sem])⟩⟩
  have hcheck : CallsIn Fence.wide (n - 1) Tryd.prog 43 _ _ _ := callsIn_wide.2 (trie_Check.calls k A0 c0 l0 e W4 (Kd.C_below hr0 hB4) hc0 he)
  obtain ⟨a0, ⟨a1, a1f⟩, ⟨a2, a2f⟩, ⟨a3, a3f⟩⟩ := hC4 W4 (Below.refl _ _)
  rcases hr with ⟨hne, rfl⟩ | ⟨rfl, hd, rfl⟩ | ⟨rfl, hd, hg, hs, rfl⟩
  · have hnb : (e != 0) = true := by simpa using hne
    refine callsIn_of_wp_marks Tryd.func19 rfl trivial ?_ rfl
    simp only [Tryd.ntmps19, List.size_toArray, List.length_cons, List.length_nil, Nat.reduceAdd, Nat.reduceSub, Array.replicate_succ, Array.replicate_zero, List.push_toArray, List.append_toArray, List.nil_append, List.cons_append]
    gi_wp2_with ((try refine ⟨trivial, ?_⟩); gi_at_call 43; (try rw [hW4]); refine hcheck.mono ?_; rintro e' W5 ⟨rfl, hB5⟩; obtain ⟨d0, ⟨d1, d1f⟩, ⟨d2, d2f⟩, ⟨d3, d3f⟩⟩ := hC4 W5 hB5)
    refine ⟨trivial, ?_⟩
    gi_wp2
    have hend := set3_cells (.int .i64 0) (.int .i64 0) (.bool false) d1 d2 d3
    change bodyPostM Fence.wide n Tryd.prog Tryd.f19 _ Exit.ret _ (set3 W5 w.heap.size (.int .i64 0) (.int .i64 0) (.bool false))
    have hBe := set3_below (b := w.heap.size) (hB4.trans (hB5.mono hB4.size)) (by omega) (.int .i64 0) (.int .i64 0) (.bool false)
    generalize set3 W5 w.heap.size (.int .i64 0) (.int .i64 0) (.bool false) = W9 at hend hBe ⊢
    refine ⟨.tuple #[.int .i64 0, .int .i64 0, .bool false], ?_, rfl, hBe⟩
    simp [results, Tryd.f19, go_sem, hend.1, hend.2.1, hend.2.2]
  · have hdig : ∀ W, CallsIn Fence.wide (n - 1) Tryd.prog 44 _ _ _ := fun W => callsIn_wide.2 (trie_digits.calls s false W hd)
    refine callsIn_of_wp_marks Tryd.func19 rfl trivial ?_ rfl
    simp only [Tryd.ntmps19, List.size_toArray, List.length_cons, List.length_nil, Nat.reduceAdd, Nat.reduceSub, Array.replicate_succ, Array.replicate_zero, List.push_toArray, List.append_toArray, List.nil_append, List.cons_append]
    gi_wp2_with (first
      | ((try refine ⟨trivial, ?_⟩); gi_at_call 43; (try rw [hW4]); refine hcheck.mono ?_; rintro e' W5 ⟨rfl, hB5⟩; obtain ⟨d0, ⟨d1, d1f⟩, ⟨d2, d2f⟩, ⟨d3, d3f⟩⟩ := hC4 W5 hB5)
      | ((try refine ⟨trivial, ?_⟩); gi_at_call 44; refine (hdig W5).mono ?_; rintro e' W6 ⟨rfl, hB6⟩; replace hB6 := below_then hB5 hB5.size hB6; clear hB5; obtain ⟨d0, ⟨d1, d1f⟩, ⟨d2, d2f⟩, ⟨d3, d3f⟩⟩ := hC4 W6 hB6))
    have hend := set3_cells (.int .i64 0) (.int .i64 0) (.bool false) d1 d2 d3
    change bodyPostM Fence.wide n Tryd.prog Tryd.f19 _ Exit.ret _ (set3 W6 w.heap.size (.int .i64 0) (.int .i64 0) (.bool false))
    have hBe := set3_below (b := w.heap.size) (hB4.trans (hB6.mono hB4.size)) (by omega) (.int .i64 0) (.int .i64 0) (.bool false)
    generalize set3 W6 w.heap.size (.int .i64 0) (.int .i64 0) (.bool false) = W9 at hend hBe ⊢
    refine ⟨.tuple #[.int .i64 0, .int .i64 0, .bool false], ?_, rfl, hBe⟩
    simp [results, Tryd.f19, go_sem, hend.1, hend.2.1, hend.2.2]
  · have hdig : ∀ W, CallsIn Fence.wide (n - 1) Tryd.prog 44 _ _ _ := fun W => callsIn_wide.2 (trie_digits.calls s true W hd)
    refine callsIn_of_wp_marks Tryd.func19 rfl trivial ?_ rfl
    simp only [Tryd.ntmps19, List.size_toArray, List.length_cons, List.length_nil, Nat.reduceAdd, Nat.reduceSub, Array.replicate_succ, Array.replicate_zero, List.push_toArray, List.append_toArray, List.nil_append, List.cons_append]
    gi_wp2_with (first
      | ((try refine ⟨trivial, ?_⟩); gi_at_call 43; (try rw [hW4]); refine hcheck.mono ?_; rintro e' W5 ⟨rfl, hB5⟩; obtain ⟨d0, ⟨d1, d1f⟩, ⟨d2, d2f⟩, ⟨d3, d3f⟩⟩ := hC4 W5 hB5)
      | ((try refine ⟨trivial, ?_⟩); gi_at_call 44; refine (hdig W5).mono ?_; rintro e' W6 ⟨rfl, hB6⟩; replace hB6 := below_then hB5 hB5.size hB6; clear hB5; obtain ⟨d0, ⟨d1, d1f⟩, ⟨d2, d2f⟩, ⟨d3, d3f⟩⟩ := hC4 W6 hB6)
      | ((try refine ⟨trivial, ?_⟩); gi_at_call 45; refine (path_in (n - 1) A0 l0.length c0 s _).mono ?_; rintro e w' ⟨rfl, rfl⟩))
    obtain ⟨W8, hW8⟩ : ∃ W8, (W6.alloc (Obj.cells #[.slice A0 l0.length c0] 32)).alloc (Obj.cells #[.string s] 9) = W8 := ⟨_, rfl⟩
    have hB8 : Below W4.heap.size W4 W8 := by
      rw [← hW8]
      exact below_alloc (below_alloc hB6 _) _
    have hz8 : W8.heap.size = W6.heap.size + 2 := by rw [← hW8]; simp
    have hz6 := hB6.size
    have hc4 : W8.cell? ⟨W6.heap.size, 0, none⟩ = some (.slice A0 l0.length c0) := by rw [← hW8]; simp [go_sem]
    have hc5 : W8.cell? ⟨W6.heap.size + 1, 0, none⟩ = some (.string s) := by rw [← hW8]; simp [go_sem]
    try rw [hW8]
    clear hW8
    obtain ⟨x0, ⟨x1, x1f⟩, ⟨x2, x2f⟩, ⟨x3, x3f⟩⟩ := hC4 W8 hB8
    have hBw8 : Below w.heap.size w W8 := hB4.trans (hB8.mono hB4.size)
    have hRd : Rd w W6.heap.size (W6.heap.size + 1) (.slice A0 l0.length c0) (.string s) W8 := ⟨hBw8, hc4, hc5⟩
    refine wpIn_rangeFunc_ownF rfl h1 (gf := 61) (lb := #[.pointer (some ⟨W6.heap.size + 1, 0, none⟩), .pointer (some ⟨W6.heap.size, 0, none⟩)]) rfl trivial (enters_of Tryd.func61 (by kernel_rfl) rfl)
      (path_stops_at (n - 1) (by omega) _ _ w A0 c0 l0 s hr0 hc0 hg.1 hg.2.1 hg.2.2 hs.1 hs.2 W8 hBw8.size hRd) (fun h k => RdK.t h k)
      (fun W l o o' hl ho hc hw h => ⟨h.1.grown (grownBy_putObj' W l o') (Nat.le_trans hBw8.size (by have := (Array.getElem?_eq_some_iff.1 ho).1; omega)) (fun k e => by cases e; omega), cell_kept h.2.1 (grownBy_putObj' W l o') (fun r e => by cases e; exact ⟨o, ho, hc⟩), cell_kept h.2.2 (grownBy_putObj' W l o') (fun r e => by cases e; exact ⟨o, ho, hc⟩)⟩)
      (Below.refl _ _) (fun _ => rfl)
      (fun pre W => (W.cell? ⟨w.heap.size, 0, none⟩ = some (.slice A0 l0.length c0) ∧ (W.cell? ⟨w.heap.size + 1, 0, none⟩ = some (.int .i64 (foundL (tt l0) (pre.map Subtype.val)).1) ∧ W.frozen? ⟨w.heap.size + 1, 0, none⟩ = false) ∧
        (W.cell? ⟨w.heap.size + 1 + 1, 0, none⟩ = some (.int .i64 (foundL (tt l0) (pre.map Subtype.val)).2.1) ∧ W.frozen? ⟨w.heap.size + 1 + 1, 0, none⟩ = false) ∧
        (W.cell? ⟨w.heap.size + 1 + 1 + 1, 0, none⟩ = some (.bool (foundL (tt l0) (pre.map Subtype.val)).2.2) ∧ W.frozen? ⟨w.heap.size + 1 + 1 + 1, 0, none⟩ = false)) ∧ Below w.heap.size w W)
      (fun _ _ _ => False)
      (OwnFrom.and (Own.from (fun pre A B row hs' hg' hr => ⟨cell_kept hs'.1 hg' hr, ⟨cell_kept hs'.2.1.1 hg' hr, (frozen_kept hs'.2.1.1 hg' hr).trans hs'.2.1.2⟩, ⟨cell_kept hs'.2.2.1.1 hg' hr, (frozen_kept hs'.2.2.1.1 hg' hr).trans hs'.2.2.1.2⟩, ⟨cell_kept hs'.2.2.2.1 hg' hr, (frozen_kept hs'.2.2.2.1 hg' hr).trans hs'.2.2.2.2⟩⟩) _) (ownFrom_below (Nat.le_refl _) (by omega)))
      (fun _ _ _ _ _ hs' _ _ => hs')
      ⟨⟨x0, ⟨x1, x1f⟩, ⟨x2, x2f⟩, ⟨x3, x3f⟩⟩, hBw8⟩
      (fun x => { tmps := #[.agg #[.slice A0 l0.length c0], .string s, .pointer (some ⟨w.heap.size, 0, none⟩), undef, .pointer (some ⟨w.heap.size + 1, 0, none⟩), .pointer (some ⟨w.heap.size + 1 + 1, 0, none⟩), .pointer (some ⟨w.heap.size + 1 + 1 + 1, 0, none⟩), .int .i64 (x.1.1 : Int), .int .i64 (x.1.2 : Int), undef,
          .agg #[.slice A0 l0.length c0], .int .i64 0, .bool false, .bool false, .string s, .bool true, .bool false, .bool false, .agg #[.slice A0 l0.length c0], .string s,
          .func (.func 61) #[] #[.pointer (some ⟨W6.heap.size + 1, 0, none⟩), .pointer (some ⟨W6.heap.size, 0, none⟩)], .int .i64 (x.1.1 : Int), .int .i64 (x.1.2 : Int), undef, undef, undef, undef, undef, undef, undef, undef, undef, undef, undef, undef, undef], defers := [] }) ?assign ?body ?done ?stop
    case assign =>
      intro l x W K hK
      gi_wp2_with (rw [Oper.semAt_eq _ _ _ (fun c h => by cases h)]; go_simp; try go_bits)
      exact hK
    case body =>
      rintro l pre x W ⟨⟨y0, ⟨y1, y1f⟩, ⟨y2, y2f⟩, ⟨y3, y3f⟩⟩, hBW⟩ _
      obtain ⟨⟨nn, at_⟩, hat⟩ := x
      have hat' : at_ < l0.length := hat
      obtain ⟨ad, rfl, hvc⟩ := val_cell (Kd.C_below hr0 hBW) at_ hat'
      have hsn := foundL_snoc (tt l0) (pre.map Subtype.val) (nn, at_)
      replace hsn := Aside0.mk hsn
      generalize hv : Tr.val (tt l0) at_ = v at hvc
      replace hv := Aside0.mk hv
      generalize hff : foundL (tt l0) (pre.map Subtype.val) = ff at y1 y2 y3
      replace hff := Aside0.mk hff
      by_cases hv0 : v = 0
      · have hvb : (v != 0) = false := by simpa using hv0
        gi_wp2_with (rw [Oper.semAt_eq _ _ _ (fun c h => by cases h)]; go_simp; try go_bits)
        have hfe : foundL (tt l0) ((pre ++ [(⟨(nn, at_), hat⟩ : NodeAt l0.length)]).map Subtype.val) = ff := by
          rw [List.map_append]
          exact hsn.out.trans ((if_pos (hv.out.trans hv0)).trans hff.out)
        refine ⟨KeepsOthers.refl _, id, ⟨y0, ⟨?_, y1f⟩, ⟨?_, y2f⟩, ⟨?_, y3f⟩⟩, hBW⟩
        · rw [hfe]; exact y1
        · rw [hfe]; exact y2
        · rw [hfe]; exact y3
      · have hvb : (v != 0) = true := by simpa using hv0
        gi_wp2_with (rw [Oper.semAt_eq _ _ _ (fun c h => by cases h)]; go_simp; try go_bits)
        have hfe : foundL (tt l0) ((pre ++ [(⟨(nn, at_), hat⟩ : NodeAt l0.length)]).map Subtype.val) = (v, (nn : Int), true) := by
          rw [List.map_append]
          exact hsn.out.trans ((if_neg (fun h => hv0 (hv.out.symm.trans h))).trans (by rw [hv.out]))
        have hend := set3_cells (.int .i64 v) (.int .i64 (nn : Int)) (.bool true) y1 y2 y3
        refine ⟨set3_keeps W w.heap.size _ _ _, fun h => ⟨set3_below h.1 (by omega) _ _ _, (set3_far W w.heap.size _ _ _ (by simp; omega)).trans h.2.1, (set3_far W w.heap.size _ _ _ (by simp; omega)).trans h.2.2⟩,
          ⟨(set3_far W w.heap.size _ _ _ (by simp)).trans y0, ⟨?_, (set3_frozen W w.heap.size _ _ _ _).trans y1f⟩, ⟨?_, (set3_frozen W w.heap.size _ _ _ _).trans y2f⟩, ⟨?_, (set3_frozen W w.heap.size _ _ _ _).trans y3f⟩⟩, set3_below hBW (by omega) _ _ _⟩
        · rw [hfe]; exact hend.1
        · rw [hfe]; exact hend.2.1
        · rw [hfe]; exact hend.2.2
    case done =>
      rintro D xs W hD hxs ⟨⟨y0, ⟨y1, y1f⟩, ⟨y2, y2f⟩, ⟨y3, y3f⟩⟩, hBW⟩ hK
      rw [hxs] at y1 y2 y3
      generalize hff : foundL (tt l0) (Tr.way (tt l0) 0 0 s.data.toList) = ff at y1 y2 y3
      replace hff := Aside0.mk hff
      gi_wp2
      gi_region
      gi_wp2
      have hend := set3_cells (.int .i64 ff.1) (.int .i64 ff.2.1) (.bool ff.2.2) y1 y2 y3
      have hK' : (set3 W w.heap.size (.int .i64 ff.1) (.int .i64 ff.2.1) (.bool ff.2.2)).drew.heap[D]? = some (.deferred (some [])) := (set3_keeps W w.heap.size _ _ _).same D _ hK rfl
      have hBe := below_drew (set3_below (b := w.heap.size) hBW (by omega) (.int .i64 ff.1) (.int .i64 ff.2.1) (.bool ff.2.2))
      change bodyPostM Fence.wide n Tryd.prog Tryd.f19 _ Exit.ret _ (set3 W w.heap.size (.int .i64 ff.1) (.int .i64 ff.2.1) (.bool ff.2.2)).drew
      have hend' : ((set3 W w.heap.size (.int .i64 ff.1) (.int .i64 ff.2.1) (.bool ff.2.2)).drew.cell? ⟨w.heap.size + 1, 0, none⟩ = some (.int .i64 ff.1)) ∧ ((set3 W w.heap.size (.int .i64 ff.1) (.int .i64 ff.2.1) (.bool ff.2.2)).drew.cell? ⟨w.heap.size + 1 + 1, 0, none⟩ = some (.int .i64 ff.2.1)) ∧ ((set3 W w.heap.size (.int .i64 ff.1) (.int .i64 ff.2.1) (.bool ff.2.2)).drew.cell? ⟨w.heap.size + 1 + 1 + 1, 0, none⟩ = some (.bool ff.2.2)) := hend
      clear hend
      generalize (set3 W w.heap.size (.int .i64 ff.1) (.int .i64 ff.2.1) (.bool ff.2.2)).drew = W9 at hend' hBe hK' ⊢
      refine ⟨by simp, .inl ⟨_, _, rfl, run_takeDeferred hK', ?_⟩⟩
      have g1 := cell_kept hend'.1 (grownBy_putObj' _ D (.deferred none)) (fun r e => by cases e; exact ⟨_, hK', rfl⟩)
      have g2 := cell_kept hend'.2.1 (grownBy_putObj' _ D (.deferred none)) (fun r e => by cases e; exact ⟨_, hK', rfl⟩)
      have g3 := cell_kept hend'.2.2 (grownBy_putObj' _ D (.deferred none)) (fun r e => by cases e; exact ⟨_, hK', rfl⟩)
      refine ⟨.tuple #[.int .i64 ff.1, .int .i64 ff.2.1, .bool ff.2.2], ?_, by rw [hff.out], hBe.grown (grownBy_putObj' _ D (.deferred none)) hBe.size (fun k e => by cases e; omega)⟩
      simp [results, Tryd.f19, go_sem, g1, g2, g3]
    case stop =>
      rintro D c pre W _ _ h _
      exact h.elim

theorem trie_Longest.calls (k : Nat) (A0 : Option Addr) (c0 : Nat) (l0 : List S77) (a1 : ByteArray) (r1 : Int) (r2 : Int) (r3 : Bool) (w : World) (hr0 : Kd.C k77 w A0 l0.length l0) (hc0 : l0.length ≤ c0) (h : trie_Longest.f k l0 a1 = some (r1, r2, r3)) :
    Calls Tryd.prog 19 #[.agg #[.slice A0 l0.length c0], .string a1] w fun e w' => e = .returned (.tuple #[.int .i64 r1, .int .i64 r2, .bool r3]) ∧ Below w.heap.size w w' := by
  unfold trie_Longest.f at h
  cases he : trie_Check.f k l0 with
  | none => rw [he] at h; cases h
  | some e =>
    rw [he, Option.bind_some] at h
    have fin := fun hr => callsIn_wide.1 (Longest_in 3 (Nat.le_refl _) A0 c0 l0 a1 w hr0 hc0 k e he (r1, r2, r3) hr)
    by_cases hne : e ≠ 0
    · rw [if_pos hne] at h
      exact fin (.inl ⟨hne, (Option.some.inj h).symm⟩)
    · rw [if_neg hne] at h
      cases hd : trie_digits.f a1 with
      | none => rw [hd] at h; cases h
      | some d =>
        rw [hd, Option.bind_some] at h
        cases d with
        | false => exact fin (.inr (.inl ⟨by omega, hd, (Option.some.inj h).symm⟩))
        | true =>
          rw [if_neg (by simp)] at h
          split at h
          case isFalse => cases h
          case isTrue hg => exact fin (.inr (.inr ⟨by omega, hd, hg.1, hg.2, (Option.some.inj h).symm⟩))

end Go.Proofs.YthknfclhkmehgaaDoor.Fn
