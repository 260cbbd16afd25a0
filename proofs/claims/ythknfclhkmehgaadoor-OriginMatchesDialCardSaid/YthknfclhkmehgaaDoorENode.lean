/-
  trie.node over trie.path's contract.
-/
import Derived.Test.YthknfclhkmehgaaDoorEPath
namespace Go.Proofs.YthknfclhkmehgaaDoor.Fn
open Go.RowKit Go.Shelf Go.Proofs.YthknfclhkmehgaaDoorW.PrintWords Go.Proofs.YthknfclhkmehgaaDoorW.PrintLast Go.Proofs.YthknfclhkmehgaaDoorW.PrintMore
set_option linter.unusedVariables false
set_option linter.unusedSimpArgs false

attribute [local go_sem] Oper.semAt_some

theorem Rd.setCell {w0 : World} {tb sb : Nat} {tv sv : Value} {W : World} (h : Rd w0 tb sb tv sv W) {p : Addr} (hp : w0.heap.size ≤ p.block) (h1 : p.block ≠ tb) (h2 : p.block ≠ sb) (v : Value) : Rd w0 tb sb tv sv (W.setCell p v) :=
  ⟨h.1.setCell hp v, (World.cell?_setCell_other _ _ _ _ (by rintro rfl; exact h1 rfl)).trans h.2.1, (World.cell?_setCell_other _ _ _ _ (by rintro rfl; exact h2 rfl)).trans h.2.2⟩

/-- What the trie must be, for the iterators' contracts. -/
def Good (l0 : List S77) : Prop := Inn (tt l0) ∧ 0 < l0.length ∧ l0.length ≤ 4096
def GoodS (s : ByteArray) : Prop := s.size ≤ 9223372036854775807 ∧ Tr.Dig s.data.toList

/-- The last pair on the way. -/
def lastW (l : List (Nat × Nat)) : Nat × Nat := l.getLastD (0, 0)
theorem lastW_snoc (l : List (Nat × Nat)) (x : Nat × Nat) : lastW (l ++ [x]) = x := by
  unfold lastW
  rw [List.getLastD_eq_getLast?]
  simp

open Classical in
noncomputable def trie_node.f (_k : Nat) (l0 : List S77) (s : ByteArray) : Option (Int × Bool) :=
  if Good l0 ∧ GoodS s then some (((lastW (Tr.way (tt l0) 0 0 s.data.toList)).2 : Int), decide ((lastW (Tr.way (tt l0) 0 0 s.data.toList)).1 = s.size)) else none
theorem trie_node.mono : ∀ a0 a1 k, LeO (trie_node.f k a0 a1) (trie_node.f (k + 1) a0 a1) := fun _ _ _ => LeO.refl _

theorem way_ne (T : Tr.Trie) : ∀ (s : Tr.Str) (i n : Nat), Tr.way T i n s ≠ []
  | [], _, _ => by simp [Tr.way]
  | b :: s, _, _ => by simp [Tr.way]

set_option maxRecDepth 100000 in
set_option maxHeartbeats 4000000 in
theorem node_in (n : Nat) (hn : 3 ≤ n) (A0 : Option Addr) (c0 : Nat) (l0 : List S77) (s : ByteArray) (w : World)
    (hr0 : Kd.C k77 w A0 l0.length l0) (hc0 : l0.length ≤ c0) (hg : Good l0) (hs : GoodS s) :
    CallsIn Fence.wide n Tryd.prog 46 #[.agg #[.slice A0 l0.length c0], .string s] w fun e w' =>
      e = .returned (.tuple #[.int .i64 ((lastW (Tr.way (tt l0) 0 0 s.data.toList)).2 : Int), .bool (decide ((lastW (Tr.way (tt l0) 0 0 s.data.toList)).1 = s.size))]) ∧ Below w.heap.size w w' := by
  have hu24 := Tryd.underlying32
  have h1 : 1 ≤ n := by omega
  refine callsIn_of_wp_marks Tryd.func46 rfl trivial ?_ rfl
  simp only [Tryd.ntmps46, List.size_toArray, List.length_cons, List.length_nil, Nat.reduceAdd, Nat.reduceSub, Array.replicate_succ, Array.replicate_zero, List.push_toArray, List.append_toArray, List.nil_append, List.cons_append]
  gi_wp2_with ((try refine ⟨trivial, ?_⟩); gi_at_call 45; refine (path_in (n - 1) A0 l0.length c0 s _).mono ?_; rintro e w' ⟨rfl, rfl⟩)
  obtain ⟨W6, hW6⟩ : ∃ W6, (((((w.alloc (Obj.cells #[.slice A0 l0.length c0] 32)).alloc (Obj.cells #[.string s] 9)).alloc (Obj.cells #[.int .i64 0] 3)).alloc (Obj.cells #[.bool false] 4)).alloc (Obj.cells #[.slice A0 l0.length c0] 32)).alloc (Obj.cells #[.string s] 9) = W6 := ⟨_, rfl⟩
  have hB6 : Below w.heap.size w W6 := by
    rw [← hW6]
    repeat apply below_alloc
    exact Below.refl _ _
  have hz6 : W6.heap.size = w.heap.size + 6 := by rw [← hW6]; simp
  have hc1 : W6.cell? ⟨w.heap.size + 1, 0, none⟩ = some (.string s) := by rw [← hW6]; simp [go_sem]
  have hc2 : W6.cell? ⟨w.heap.size + 1 + 1, 0, none⟩ = some (.int .i64 0) ∧ W6.frozen? ⟨w.heap.size + 1 + 1, 0, none⟩ = false := by rw [← hW6]; simp [go_sem]
  have hc3 : W6.cell? ⟨w.heap.size + 1 + 1 + 1, 0, none⟩ = some (.bool false) ∧ W6.frozen? ⟨w.heap.size + 1 + 1 + 1, 0, none⟩ = false := by rw [← hW6]; simp [go_sem]
  have hc4 : W6.cell? ⟨w.heap.size + 1 + 1 + 1 + 1, 0, none⟩ = some (.slice A0 l0.length c0) := by rw [← hW6]; simp [go_sem]
  have hc5 : W6.cell? ⟨w.heap.size + 1 + 1 + 1 + 1 + 1, 0, none⟩ = some (.string s) := by rw [← hW6]; simp [go_sem]
  rw [hW6]
  clear hW6
  have hRd : Rd w (w.heap.size + 1 + 1 + 1 + 1) (w.heap.size + 1 + 1 + 1 + 1 + 1) (.slice A0 l0.length c0) (.string s) W6 := ⟨hB6, hc4, hc5⟩
  refine wpIn_rangeFunc_ownF rfl h1 (gf := 61) (lb := #[.pointer (some ⟨w.heap.size + 1 + 1 + 1 + 1 + 1, 0, none⟩), .pointer (some ⟨w.heap.size + 1 + 1 + 1 + 1, 0, none⟩)]) rfl trivial (enters_of Tryd.func61 (by kernel_rfl) rfl)
    (path_stops (n - 1) (by omega) _ _ w A0 c0 l0 s hr0 hc0 hg.1 hg.2.1 hg.2.2 hs.1 hs.2 W6 hB6.size hRd) (fun h k => RdK.t h k)
    (fun W l o o' hl ho hc hw h => ⟨h.1.grown (grownBy_putObj' W l o') (Nat.le_trans hB6.size (by have := (Array.getElem?_eq_some_iff.1 ho).1; omega)) (fun k e => by cases e; omega), cell_kept h.2.1 (grownBy_putObj' W l o') (fun r e => by cases e; exact ⟨o, ho, hc⟩), cell_kept h.2.2 (grownBy_putObj' W l o') (fun r e => by cases e; exact ⟨o, ho, hc⟩)⟩)
    (Below.refl _ _) (fun _ => rfl)
    (fun pre W => (W.cell? ⟨w.heap.size + 1, 0, none⟩ = some (.string s) ∧ W.cell? ⟨w.heap.size + 1 + 1, 0, none⟩ = some (.int .i64 ((lastW pre).2 : Int)) ∧ W.frozen? ⟨w.heap.size + 1 + 1, 0, none⟩ = false ∧
      W.cell? ⟨w.heap.size + 1 + 1 + 1, 0, none⟩ = some (.bool (decide (pre ≠ [] ∧ (lastW pre).1 = s.size))) ∧ W.frozen? ⟨w.heap.size + 1 + 1 + 1, 0, none⟩ = false) ∧ Below w.heap.size w W)
    (fun _ _ _ => False)
    (OwnFrom.and (Own.from (fun pre A B row hs' hg' hr => ⟨cell_kept hs'.1 hg' hr, cell_kept hs'.2.1 hg' hr, (frozen_kept hs'.2.1 hg' hr).trans hs'.2.2.1, cell_kept hs'.2.2.2.1 hg' hr, (frozen_kept hs'.2.2.2.1 hg' hr).trans hs'.2.2.2.2⟩) _) (ownFrom_below (Nat.le_refl _) (by omega)))
    (fun _ _ _ _ _ hs' _ _ => hs')
    ⟨⟨hc1, hc2.1, hc2.2, by simpa using hc3.1, hc3.2⟩, hB6⟩
    (fun x => { tmps := #[.agg #[.slice A0 l0.length c0], .string s, .pointer (some ⟨w.heap.size, 0, none⟩), .pointer (some ⟨w.heap.size + 1, 0, none⟩), .pointer (some ⟨w.heap.size + 1 + 1, 0, none⟩), .pointer (some ⟨w.heap.size + 1 + 1 + 1, 0, none⟩), .int .i64 (x.1 : Int), .int .i64 (x.2 : Int), .agg #[.slice A0 l0.length c0], .string s,
          .func (.func 61) #[] #[.pointer (some ⟨w.heap.size + 1 + 1 + 1 + 1 + 1, 0, none⟩), .pointer (some ⟨w.heap.size + 1 + 1 + 1 + 1, 0, none⟩)], .int .i64 (x.1 : Int), .int .i64 (x.2 : Int), undef, undef, undef, undef, undef, undef, undef], defers := [] }) ?assign ?body ?done ?stop
  case assign =>
    intro l x W K hK
    gi_wp2_with (rw [Oper.semAt_eq _ _ _ (fun c h => by cases h)]; go_simp; try go_bits)
    exact hK
  case body =>
    rintro l pre x W ⟨⟨hb1, hb2, hf2, hb3, hf3⟩, hBW⟩ _
    gi_wp2_with (rw [Oper.semAt_eq _ _ _ (fun c h => by cases h)]; go_simp; try go_bits)
    have fin : ∀ W', (W' = ((W.setCell ⟨w.heap.size + 1 + 1, 0, none⟩ (.int .i64 (x.2 : Int))).setCell ⟨w.heap.size + 1 + 1 + 1, 0, none⟩ (.bool ((x.1 : Int) == (s.size : Int)))).drew ∨ W' = ((W.setCell ⟨w.heap.size + 1 + 1 + 1, 0, none⟩ (.bool ((x.1 : Int) == (s.size : Int)))).setCell ⟨w.heap.size + 1 + 1, 0, none⟩ (.int .i64 (x.2 : Int))).drew) →
        KeepsOthers W W' ∧ RdK w (w.heap.size + 1 + 1 + 1 + 1) (w.heap.size + 1 + 1 + 1 + 1 + 1) (.slice A0 l0.length c0) (.string s) W W' ∧ (W'.cell? ⟨w.heap.size + 1, 0, none⟩ = some (.string s) ∧ W'.cell? ⟨w.heap.size + 1 + 1, 0, none⟩ = some (.int .i64 ((lastW (pre ++ [x])).2 : Int)) ∧ W'.frozen? ⟨w.heap.size + 1 + 1, 0, none⟩ = false ∧
      W'.cell? ⟨w.heap.size + 1 + 1 + 1, 0, none⟩ = some (.bool (decide (pre ++ [x] ≠ [] ∧ (lastW (pre ++ [x])).1 = s.size))) ∧ W'.frozen? ⟨w.heap.size + 1 + 1 + 1, 0, none⟩ = false) ∧ Below w.heap.size w W' := by
      have hbe : ((x.1 : Int) == (s.size : Int)) = decide (pre ++ [x] ≠ [] ∧ (lastW (pre ++ [x])).1 = s.size) := by
        rw [lastW_snoc, Bool.eq_iff_iff]
        simp
        omega
      rw [hbe, lastW_snoc]
      rintro W' (rfl | rfl)
      · refine ⟨((KeepsOthers.setCell _ _ _).trans (KeepsOthers.setCell _ _ _)).trans ⟨Nat.le_refl _, fun _ _ h _ => h⟩, fun h => ((h.setCell (by first | (simp; done) | (simp; omega)) (by simp) (by simp) _).setCell (by first | (simp; done) | (simp; omega)) (by first | (simp; done) | (simp; omega)) (by first | (simp; done) | (simp; omega)) _).drew, ⟨?_, ?_, ?_, ?_, ?_⟩, below_drew ((hBW.setCell (by first | (simp; done) | (simp; omega)) _).setCell (by first | (simp; done) | (simp; omega)) _)⟩
        · exact (World.cell?_setCell_other _ _ _ _ (by simp)).trans ((World.cell?_setCell_other _ _ _ _ (by simp)).trans hb1)
        · exact (World.cell?_setCell_other _ _ _ _ (by simp)).trans (World.cell?_setCell_same' _ _ _ (by rw [hb2]; rfl))
        · show ((W.setCell _ _).setCell _ _).frozen? _ = false
          rw [World.frozen?_setCell, World.frozen?_setCell]; exact hf2
        · exact World.cell?_setCell_same' _ _ _ (by rw [World.cell?_setCell_other _ _ _ _ (by simp), hb3]; rfl)
        · show ((W.setCell _ _).setCell _ _).frozen? _ = false
          rw [World.frozen?_setCell, World.frozen?_setCell]; exact hf3
      · refine ⟨((KeepsOthers.setCell _ _ _).trans (KeepsOthers.setCell _ _ _)).trans ⟨Nat.le_refl _, fun _ _ h _ => h⟩, fun h => ((h.setCell (by first | (simp; done) | (simp; omega)) (by simp) (by simp) _).setCell (by first | (simp; done) | (simp; omega)) (by first | (simp; done) | (simp; omega)) (by first | (simp; done) | (simp; omega)) _).drew, ⟨?_, ?_, ?_, ?_, ?_⟩, below_drew ((hBW.setCell (by first | (simp; done) | (simp; omega)) _).setCell (by first | (simp; done) | (simp; omega)) _)⟩
        · exact (World.cell?_setCell_other _ _ _ _ (by simp)).trans ((World.cell?_setCell_other _ _ _ _ (by simp)).trans hb1)
        · exact World.cell?_setCell_same' _ _ _ (by rw [World.cell?_setCell_other _ _ _ _ (by simp), hb2]; rfl)
        · show ((W.setCell _ _).setCell _ _).frozen? _ = false
          rw [World.frozen?_setCell, World.frozen?_setCell]; exact hf2
        · exact (World.cell?_setCell_other _ _ _ _ (by simp)).trans (World.cell?_setCell_same' _ _ _ (by rw [hb3]; rfl))
        · show ((W.setCell _ _).setCell _ _).frozen? _ = false
          rw [World.frozen?_setCell, World.frozen?_setCell]; exact hf3
    gi_region
    all_goals (refine fin _ ?_; first | exact .inl rfl | exact .inr rfl)
  case done =>
    rintro D xs W hD rfl ⟨⟨hb1, hb2, hf2, hb3, hf3⟩, hBW⟩ hK
    have hwn := way_ne (tt l0) s.data.toList 0 0
    have hb3' : W.cell? ⟨w.heap.size + 1 + 1 + 1, 0, none⟩ = some (.bool (decide ((lastW (Tr.way (tt l0) 0 0 s.data.toList)).1 = s.size))) := by
      rw [hb3]
      simp [hwn]
    clear hb3
    generalize hv1 : ((lastW (Tr.way (tt l0) 0 0 s.data.toList)).2 : Int) = v1 at hb2 ⊢
    generalize hv2 : decide ((lastW (Tr.way (tt l0) 0 0 s.data.toList)).1 = s.size) = v2 at hb3' ⊢
    replace hv1 := Aside0.mk hv1
    replace hv2 := Aside0.mk hv2
    clear hwn
    gi_wp2
    gi_region
    gi_wp2
    have hbase : KeepsOthers W ((W.setCell ⟨w.heap.size + 1 + 1, 0, none⟩ (.int .i64 v1)).setCell ⟨w.heap.size + 1 + 1 + 1, 0, none⟩ (.bool v2)).drew := ((KeepsOthers.setCell _ _ _).trans (KeepsOthers.setCell _ _ _)).trans ⟨Nat.le_refl _, fun _ _ h _ => h⟩
    have hBd : Below w.heap.size w ((W.setCell ⟨w.heap.size + 1 + 1, 0, none⟩ (.int .i64 v1)).setCell ⟨w.heap.size + 1 + 1 + 1, 0, none⟩ (.bool v2)).drew := below_drew ((hBW.setCell (by simp; omega) _).setCell (by simp; omega) _)
    have e1 : (((W.setCell ⟨w.heap.size + 1 + 1, 0, none⟩ (.int .i64 v1)).setCell ⟨w.heap.size + 1 + 1 + 1, 0, none⟩ (.bool v2)).drew).cell? ⟨w.heap.size + 1 + 1, 0, none⟩ = some (.int .i64 v1) := (World.cell?_setCell_other _ _ _ _ (by simp)).trans (World.cell?_setCell_same' _ _ _ (by rw [hb2]; rfl))
    have e2 : (((W.setCell ⟨w.heap.size + 1 + 1, 0, none⟩ (.int .i64 v1)).setCell ⟨w.heap.size + 1 + 1 + 1, 0, none⟩ (.bool v2)).drew).cell? ⟨w.heap.size + 1 + 1 + 1, 0, none⟩ = some (.bool v2) := World.cell?_setCell_same' _ _ _ (by rw [World.cell?_setCell_other _ _ _ _ (by simp), hb3']; rfl)
    have hK' := hbase.same D _ hK rfl
    generalize ((W.setCell ⟨w.heap.size + 1 + 1, 0, none⟩ (.int .i64 v1)).setCell ⟨w.heap.size + 1 + 1 + 1, 0, none⟩ (.bool v2)).drew = W9 at hBd e1 e2 hK' ⊢
    refine ⟨by simp, .inl ⟨_, _, rfl, run_takeDeferred hK', ?_⟩⟩
    have g1 := cell_kept e1 (grownBy_putObj' _ D (.deferred none)) (fun r e => by cases e; exact ⟨_, hK', rfl⟩)
    have g2 := cell_kept e2 (grownBy_putObj' _ D (.deferred none)) (fun r e => by cases e; exact ⟨_, hK', rfl⟩)
    refine ⟨.tuple #[.int .i64 v1, .bool v2], ?_, by rw [hv1.out, hv2.out], hBd.grown (grownBy_putObj' _ D (.deferred none)) hBd.size (fun k e => by cases e; omega)⟩
    simp [results, Tryd.f46, go_sem, g1, g2]
  case stop =>
    rintro D c pre W _ _ h _
    exact h.elim

theorem trie_node.calls (k : Nat) (A0 : Option Addr) (c0 : Nat) (l0 : List S77) (a1 : ByteArray) (r1 : Int) (r2 : Bool) (w : World) (hr0 : Kd.C k77 w A0 l0.length l0) (hc0 : l0.length ≤ c0) (h : trie_node.f k l0 a1 = some (r1, r2)) :
    Calls Tryd.prog 46 #[.agg #[.slice A0 l0.length c0], .string a1] w fun e w' => e = .returned (.tuple #[.int .i64 r1, .bool r2]) ∧ Below w.heap.size w w' := by
  unfold trie_node.f at h
  split at h
  case isFalse => cases h
  case isTrue hg =>
  cases h
  exact callsIn_wide.1 (node_in 3 (Nat.le_refl _) A0 c0 l0 a1 w hr0 hc0 hg.1 hg.2)

end Go.Proofs.YthknfclhkmehgaaDoor.Fn
