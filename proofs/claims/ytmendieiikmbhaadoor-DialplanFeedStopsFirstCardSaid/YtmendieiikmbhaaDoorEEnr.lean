/-
  trie.Entries over the iterator's contract.
-/
import Derived.Test.YtmendieiikmbhaaDoorEExt
import Derived.Deep.DeepMust
namespace Go.Proofs.YtmendieiikmbhaaDoor.Fn
open Go.RowKit Go.Shelf Go.Proofs.YtmendieiikmbhaaDoorW.PrintWords Go.Proofs.YtmendieiikmbhaaDoorW.PrintLast Go.Proofs.YtmendieiikmbhaaDoorW.PrintMore
set_option linter.unusedVariables false
set_option linter.unusedSimpArgs false

attribute [local go_sem] Oper.semAt_some

def toS (x : Tr.Str × Int) : S39 := ⟨⟨x.1.toArray⟩, x.2⟩
def flatE (l : List (Tr.Str × Int)) : List Value := l.flatMap fun x => [.string ⟨x.1.toArray⟩, .int .i64 x.2]
theorem flatE_snoc (l : List (Tr.Str × Int)) (x : Tr.Str × Int) : flatE (l ++ [x]) = flatE l ++ [.string ⟨x.1.toArray⟩, .int .i64 x.2] := by simp [flatE]
theorem flatE_reps (w : World) (base : Nat) (ok : Nat → Prop) : ∀ (n : Nat) (l : List (Tr.Str × Int)), l.length = n → Reps (k39.M w base ok) 2 (l.map toS) (flatE l)
  | 0, l, h => by
    rw [List.length_eq_zero_iff.1 h]
    exact Reps.none _ _
  | n + 1, l, h => by
    have hne : l ≠ [] := by rintro rfl; cases h
    rw [← List.dropLast_concat_getLast hne, flatE_snoc, List.map_append]
    exact Reps.snoc (flatE_reps w base ok n _ (by simp [h])) (k39_mkM w base ok (toS (l.getLast hne))) rfl

open Classical in
noncomputable def trie_Entries.f (k : Nat) (l0 : List S71) : Option (List S39) :=
  (trie_Check.f k l0).bind fun e => if e ≠ 0 then some [] else
    if Good l0 ∧ (∃ dep, Deep l0 dep ∧ dep 0 = 0) ∧ (Tr.entries (tt l0)).length < 5864062014805 then some ((Tr.entries (tt l0)).map toS) else none
theorem trie_Entries.mono : ∀ a0 k, LeO (trie_Entries.f k a0) (trie_Entries.f (k + 1) a0) := fun a0 k => LeO.bind (trie_Check.mono a0 k) (fun _ => LeO.refl _)

theorem own_ne_noncells {w : World} {base : Nat} {e : TypeId} {size n : Nat} {v : Value} {xs : List Value} (h : w.ownsRow base e size v n xs) {r : Nat} {o : Obj} (ho : w.heap[r]? = some o) (hc : ∀ cs, o ≠ .cells cs e (0, 0)) : some r ≠ v.ownBlock := by
  rcases h.2 with ⟨rfl, _⟩ | ⟨g, cap, cur, rfl, _, hg, _⟩
  · simp [Value.ownBlock]
  · intro he
    have : r = g := by simpa [Value.ownBlock] using he
    subst this
    rw [ho] at hg
    exact hc _ (Option.some.inj hg)

theorem grown_set (W : World) (p : Addr) (u : Value) : W.grownBy (W.setCell p u) (some p.block) :=
  ⟨rfl, rfl, rfl, by simp [World.setCell], fun i _ hne => Below.heap_setCell W p u i (fun e => hne (by rw [e]))⟩
theorem cells_two_new (w : World) (x y : Value) (t : TypeId) : ∀ j u, [x, y][j]? = some u → (w.alloc (.cells #[x, y] t)).cell? ((⟨w.heap.size, 0, none⟩ : Addr).add j) = some u := by
  intro j u hj
  have := blk_cell (World.alloc_heap_new w (.cells #[x, y] t)) j
  match j, hj with
  | 0, hj => cases hj; exact this
  | 1, hj => cases hj; exact this
  | j + 2, hj => simp at hj

set_option maxRecDepth 100000 in
set_option maxHeartbeats 4000000 in
theorem Entries_in (n : Nat) (hn : 3 ≤ n) (A0 : Option Addr) (c0 : Nat) (l0 : List S71) (w : World)
    (hr0 : Kd.C k71 w A0 l0.length l0) (hc0 : l0.length ≤ c0) (k : Nat) (e : Int) (he : trie_Check.f k l0 = some e) (r : List S39)
    (hr : (e ≠ 0 ∧ r = []) ∨ (e = 0 ∧ Good l0 ∧ (∃ dep, Deep l0 dep ∧ dep 0 = 0) ∧ (Tr.entries (tt l0)).length < 5864062014805 ∧ r = (Tr.entries (tt l0)).map toS)) :
    CallsIn Fence.wide n Tryd.prog 22 #[.agg #[.slice A0 l0.length c0]] w fun e w' => ∃ v0_ : Value, e = .returned v0_ ∧ Kd.R k39 39 w' w.heap.size (fun _ => True) v0_ r ∧ Below w.heap.size w w' := by
  have hu24 := Tryd.underlying24
  have h1 : 1 ≤ n := by omega
  obtain ⟨W4, hW4⟩ : ∃ W4, w.alloc (Obj.cells #[.slice A0 l0.length c0] 24) = W4 := ⟨_, rfl⟩
  have hB4 : Below w.heap.size w W4 := by
    rw [← hW4]
    exact below_alloc (Below.refl _ _) _
  have hz4 : W4.heap.size = w.heap.size + 1 := by rw [← hW4]; simp
  have hC4 : ∀ W, Below W4.heap.size W4 W → W.cell? ⟨w.heap.size, 0, none⟩ = some (.slice A0 l0.length c0) := by
    intro W hB
    exact (hB.cell (by simp; omega)).trans (by rw [← hW4]; simp [go_sem])
  have hcheck : CallsIn Fence.wide (n - 1) Tryd.prog 24 _ _ _ := callsIn_wide.2 (trie_Check.calls k A0 c0 l0 e W4 (Kd.C_below hr0 hB4) hc0 he)
  have a0 := hC4 W4 (Below.refl _ _)
  rcases hr with ⟨hne, rfl⟩ | ⟨rfl, hg, ⟨dep, hdp, hd0⟩, hlen, rfl⟩
  · have hnb : (e != 0) = true := by simpa using hne
    refine callsIn_of_wp_marks Tryd.func22 rfl trivial ?_ rfl
    simp only [Tryd.ntmps22, List.size_toArray, List.length_cons, List.length_nil, Nat.reduceAdd, Nat.reduceSub, Array.replicate_succ, Array.replicate_zero, List.push_toArray, List.append_toArray, List.nil_append, List.cons_append]
    gi_wp2_with ((try refine ⟨trivial, ?_⟩); gi_at_call 24; (try rw [hW4]); refine hcheck.mono ?_; rintro e' W5 ⟨rfl, hB5⟩; have d0 := hC4 W5 hB5)
    refine ⟨_, results_tmp rfl _ _ _, _, rfl, Kd.R_nil _ _ _ _ _, hB4.trans (hB5.mono hB4.size)⟩
  · refine callsIn_of_wp_marks Tryd.func22 rfl trivial ?_ rfl
    simp only [Tryd.ntmps22, List.size_toArray, List.length_cons, List.length_nil, Nat.reduceAdd, Nat.reduceSub, Array.replicate_succ, Array.replicate_zero, List.push_toArray, List.append_toArray, List.nil_append, List.cons_append]
    gi_wp2_with (first
      | ((try refine ⟨trivial, ?_⟩); gi_at_call 24; (try rw [hW4]); refine hcheck.mono ?_; rintro e' W5 ⟨rfl, hB5⟩; have d0 := hC4 W5 hB5; have d1 := hC4 (W5.alloc (.cells #[.slice none 0 0] 31)) (below_alloc hB5 _))
      | ((try refine ⟨trivial, ?_⟩); gi_at_call 49; refine (entries_in (n - 1) A0 l0.length c0 0 ⟨#[]⟩ _).mono ?_; rintro e w' ⟨rfl, rfl⟩))
    obtain ⟨W8, hW8⟩ : ∃ W8, (((W5.alloc (Obj.cells #[.slice none 0 0] 31)).alloc (Obj.cells #[.slice A0 l0.length c0] 24)).alloc (Obj.cells #[.int .i64 0] 3)).alloc (Obj.cells #[.string ⟨#[]⟩] 9) = W8 := ⟨_, rfl⟩
    have hB8 : Below W5.heap.size W5 W8 := by
      rw [← hW8]
      exact below_alloc (below_alloc (below_alloc (below_alloc (Below.refl _ _) _) _) _) _
    have hz8 : W8.heap.size = W5.heap.size + 4 := by rw [← hW8]; simp
    have hz5 := hB5.size
    have hc3 : W8.heap[W5.heap.size]? = some (.cells #[.slice none 0 0] 31 (0, 0)) := by rw [← hW8]; exact blk_alloc (blk_alloc (blk_alloc (World.alloc_heap_new W5 _) _) _) _
    have hc4 : W8.heap[W5.heap.size + 1]? = some (.cells #[.slice A0 l0.length c0] 24 (0, 0)) := by
      rw [← hW8]
      have := World.alloc_heap_new (W5.alloc (Obj.cells #[.slice none 0 0] 31)) (.cells #[.slice A0 l0.length c0] 24)
      rw [World.size_alloc] at this
      exact blk_alloc (blk_alloc this _) _
    have hc5 : W8.cell? ⟨W5.heap.size + 1 + 1, 0, none⟩ = some (.int .i64 0) := by rw [← hW8]; simp [go_sem]
    have hc6 : W8.cell? ⟨W5.heap.size + 1 + 1 + 1, 0, none⟩ = some (.string ⟨#[]⟩) := by rw [← hW8]; simp [go_sem]
    try rw [hW8]
    clear hW8
    have hBw8 : Below w.heap.size w W8 := hB4.trans ((below_then hB5 hB5.size hB8).mono hB4.size)
    have hseq := entries_stops (n - 1) (W5.heap.size + 1) (W5.heap.size + 1 + 1) (W5.heap.size + 1 + 1 + 1) w A0 c0 l0 (fun t => t = 31 ∨ t = 39) 0 ⟨#[]⟩ hr0 hc0 hg.1 hg.2.2 dep hdp.1 hdp.2 (by simp) (by simp) (by simp) (by simp) (by omega) (by have := hg.2.1; omega) hd0.symm W8 hBw8 hc4 hc5 hc6
    rw [show (0 : Int).toNat = 0 from rfl, hd0] at hseq
    obtain ⟨es, hes⟩ : ∃ es, es = Tr.entries (tt l0) := ⟨_, rfl⟩
    rw [show Tr.ents (tt l0) (16 - 0) 0 (⟨#[]⟩ : ByteArray).data.toList = es from hes.symm] at hseq
    rw [← hes] at hlen
    replace hes := Aside0.mk hes
    obtain ⟨i0, hi, hzz⟩ := Option.map_eq_some_iff.1 info39
    simp only [Prod.mk.injEq] at hzz
    obtain ⟨hz0, hz1, hz2⟩ := hzz
    refine wpIn_rangeFunc_ownF rfl h1 (gf := 69) (lb := #[.pointer (some ⟨W5.heap.size + 1, 0, none⟩), .pointer (some ⟨W5.heap.size + 1 + 1, 0, none⟩), .pointer (some ⟨W5.heap.size + 1 + 1 + 1, 0, none⟩)]) rfl trivial (enters_of Tryd.func69 (by kernel_rfl) rfl)
      hseq (fun h k => KpT.trans h k)
      (fun W l o o' hl ho hc hw => ⟨(Below.refl _ _).grown (grownBy_putObj' W l o') (by have := (Array.getElem?_eq_some_iff.1 ho).1; have := hBw8.size; omega) (fun k e => by cases e; have := hBw8.size; omega), fun k cs t x hk _ => (World.putObj_heap_other (by rintro rfl; rw [ho] at hk; cases hk; cases hc)).trans hk⟩)
      (Below.refl _ _) (fun _ => rfl)
      (fun pre W => (∃ v, W.heap[W5.heap.size]? = some (.cells #[v] 31 (0, 0)) ∧ W.ownsRow w.heap.size 39 2 v pre.length (flatE pre)) ∧ Below w.heap.size w W)
      (fun _ _ _ => False)
      (OwnFrom.and (Own.from (fun pre A B row hs' hg' hr => by
        obtain ⟨v, h1, h2⟩ := hs'
        refine ⟨v, (grownBy_keeps_cells hg' hr h1 rfl).trans h1, h2.kept hg' ?_⟩
        cases row with
        | none =>
          cases hv : v.ownBlock with
          | none => exact .inl rfl
          | some b => exact .inr (by simp)
        | some rr =>
          obtain ⟨o, ho, hoc⟩ := hr rr rfl
          exact .inr (Ne.symm (own_ne_noncells h2 ho (by rintro cs rfl; cases hoc)))) _) (ownFrom_below (Nat.le_refl _) (by have := hB4.size; omega)))
      (fun _ _ _ _ _ hs' _ _ => hs')
      ⟨⟨.slice none 0 0, hc3, own_nil _ _ _ _⟩, hBw8⟩
      (fun x => { tmps := #[.agg #[.slice A0 l0.length c0], .pointer (some ⟨w.heap.size, 0, none⟩), .slice none 0 0, .pointer (some ⟨W5.heap.size, 0, none⟩), .string ⟨x.1.toArray⟩, .int .i64 x.2, .agg #[.slice A0 l0.length c0], .int .i64 0, .bool false, .agg #[.slice A0 l0.length c0],
          .func (.func 69) #[] #[.pointer (some ⟨W5.heap.size + 1, 0, none⟩), .pointer (some ⟨W5.heap.size + 1 + 1, 0, none⟩), .pointer (some ⟨W5.heap.size + 1 + 1 + 1, 0, none⟩)], .string ⟨x.1.toArray⟩, .int .i64 x.2, undef, undef, undef, undef, undef, undef, undef], defers := [] }) ?assign ?body ?done ?stop
    case assign =>
      intro l x W K hK
      gi_wp2_with (rw [Oper.semAt_eq _ _ _ (fun c h => by cases h)]; go_simp; try go_bits)
      exact hK
    case body =>
      rintro l pre x W ⟨⟨v, hob, hrow⟩, hBW⟩ hpl
      have hv1 : W.cell? ⟨W5.heap.size, 0, none⟩ = some v := (blk_cell hob 0).trans rfl
      have hzW := hBW.size
      have hlob := blk_lt hob
      have hob' := blk_alloc hob (.cells #[.string ⟨x.1.toArray⟩, .int .i64 x.2] 39)
      have hv1' : (W.alloc (.cells #[.string ⟨x.1.toArray⟩, .int .i64 x.2] 39)).cell? ⟨W5.heap.size, 0, none⟩ = some v := (blk_cell hob' 0).trans rfl
      gi_wp2_with (first
        | (gi_at_builtin
           go_must (refine wpListIn_append_own _ rfl _ _ 31 rfl w.heap.size 39 i0 (.agg #[(.string ⟨#[]⟩), (.int .i64 0)]) 2 24 Tryd.underlying31 hi hz0 hz1 hz2 rfl (by decide) v pre.length (flatE pre) rfl (hrow.alloc _) ⟨W.heap.size, 0, none⟩ 1 1 [.string ⟨x.1.toArray⟩, .int .i64 x.2] rfl rfl ?n1 ?n2 ?n3 ?n4 ?n5 ?_)
           case n1 => go_must (exact cells_two_new _ _ _ _)
           case n2 => go_must (simp [Value.oneCell'])
           case n3 => go_must (simp only [maxLen]; omega)
           case n4 => go_must (omega)
           case n5 => go_must (simp; omega)
           intro v' w3 hown' hg3 hnil3
           have hob3 : w3.heap[W5.heap.size]? = some (.cells #[v] 31 (0, 0)) := (hg3.block _ (by simp; omega) (own_ne_noncells hrow hob (by rintro cs ⟨⟩))).trans hob'
           have hv3 : w3.cell? ⟨W5.heap.size, 0, none⟩ = some v := (blk_cell hob3 0).trans rfl
           have hf3 : w3.frozen? ⟨W5.heap.size, 0, none⟩ = false := blk_frozen hob3 0
           obtain ⟨g', cap', cur', rfl, hown2⟩ : ∃ g' cap' cur', v' = .slice (some ⟨g', 0, none⟩) (pre.length + 1) cap' ∧ w3.heap[g']? = some (.cells cur' 39 (0, 0)) := by
             rcases hown'.2 with ⟨_, h0⟩ | ⟨g', cap', cur', e1, e2, e3, _⟩
             · exact absurd h0 (by omega)
             · exact ⟨g', cap', cur', e1, e3⟩)
        | (rw [Oper.semAt_eq _ _ _ (fun c h => by cases h)]; go_simp; try go_bits))
      have hsz : (W.alloc (.cells #[.string ⟨x.1.toArray⟩, .int .i64 x.2] 39)).heap.size = W.heap.size + 1 := by simp
      have hgne : g' ≠ W5.heap.size := by
        rintro rfl
        rw [hob3] at hown2
        cases hown2
      have hBW3 : Below w.heap.size W w3 := ((Below.refl _ W).alloc hzW _).grown hg3 (by rw [hsz]; omega) (own_base hrow)
      have hBs : Below w.heap.size W (w3.setCell ⟨W5.heap.size, 0, none⟩ (.slice (some ⟨g', 0, none⟩) (pre.length + 1) cap')) := hBW3.setCell (by simp; have := hB4.size; omega) _
      refine ⟨((KeepsOthers.alloc W _).trans (KeepsOthers.of_grownBy hg3 ?_)).trans (KeepsOthers.setCell _ _ _), ⟨hBs, ?_⟩, ⟨_, blk_put hob3 0 _ rfl, ?_⟩, hBW.trans hBs⟩
      · intro j o hj ho
        rcases (hrow.alloc (.cells #[.string ⟨x.1.toArray⟩, .int .i64 x.2] 39)).2 with ⟨e1, _⟩ | ⟨g1, cap1, cur1, e1, _, e3, _⟩
        · rw [e1] at hj; simp [Value.ownBlock] at hj
        · rw [e1] at hj
          have : g1 = j := by simpa [Value.ownBlock] using hj
          subst this
          rw [ho] at e3
          cases e3
          rfl
      · intro k cs t y hk ht
        have hkl := blk_lt hk
        refine (Below.heap_setCell w3 _ _ k ?_).trans ((hg3.block k (by rw [hsz]; omega) (own_ne_noncells hrow hk ?_)).trans (blk_alloc hk _))
        · rintro rfl
          rw [hob] at hk
          cases hk
          exact ht (.inl rfl)
        · rintro cs' e
          cases e
          exact ht (.inr rfl)
      · rw [flatE_snoc, List.length_append, List.length_singleton]
        refine hown'.kept (grown_set w3 _ _) (.inr ?_)
        simp [Value.ownBlock]
        exact hgne
    case done =>
      rintro D xs W hD rfl ⟨⟨v, hob, hrow⟩, hBW⟩ hK
      have hv1 : W.cell? ⟨W5.heap.size, 0, none⟩ = some v := (blk_cell hob 0).trans rfl
      gi_wp2
      refine ⟨by simp, .inl ⟨_, _, rfl, run_takeDeferred hK, ?_⟩⟩
      have hDne := own_ne_noncells hrow hK (by rintro cs ⟨⟩)
      refine ⟨_, results_tmp rfl _ _ _, _, rfl, ⟨fun _ _ => trivial, flatE xs, ?_, ?_⟩, hBW.grown (grownBy_putObj' _ D (.deferred none)) hBW.size (fun k e => by cases e; have := hBw8.size; omega)⟩
      · rw [← hes.out, List.length_map]
        exact hrow.kept (grownBy_putObj' _ D (.deferred none)) (.inr (Ne.symm hDne))
      · rw [← hes.out]
        exact flatE_reps _ _ _ _ xs rfl
    case stop =>
      rintro D c pre W _ _ h _
      exact h.elim

theorem trie_Entries.calls (k : Nat) (A0 : Option Addr) (c0 : Nat) (l0 : List S71) (r : List S39) (w : World) (hr0 : Kd.C k71 w A0 l0.length l0) (hc0 : l0.length ≤ c0) (h : trie_Entries.f k l0 = some r) :
    Calls Tryd.prog 22 #[.agg #[.slice A0 l0.length c0]] w fun e w' => ∃ v0_ : Value, e = .returned (v0_) ∧ Kd.R k39 39 w' w.heap.size (fun _ => True) v0_ r ∧ Below w.heap.size w w' := by
  unfold trie_Entries.f at h
  cases he : trie_Check.f k l0 with
  | none => rw [he] at h; cases h
  | some e =>
    rw [he, Option.bind_some] at h
    have fin := fun hr => callsIn_wide.1 (Entries_in 3 (Nat.le_refl _) A0 c0 l0 w hr0 hc0 k e he r hr)
    by_cases hne : e ≠ 0
    · rw [if_pos hne] at h
      exact fin (.inl ⟨hne, (Option.some.inj h).symm⟩)
    · rw [if_neg hne] at h
      split at h
      case isFalse => cases h
      case isTrue hg => exact fin (.inr ⟨by omega, hg.1, hg.2.1, hg.2.2, (Option.some.inj h).symm⟩)

end Go.Proofs.YtmendieiikmbhaaDoor.Fn
