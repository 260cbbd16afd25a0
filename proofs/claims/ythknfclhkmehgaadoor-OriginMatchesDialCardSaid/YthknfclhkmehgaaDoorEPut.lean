/-
  slices.Clone at a trie's nodes.
  trie.Put: the walk.
-/
import Derived.Test.YthknfclhkmehgaaDoorFn8
import Derived.Laws.IdiomCopy
import Derived.Test.YthknfclhkmehgaaDoorFn10
import Derived.Test.YthknfclhkmehgaaDoorEEnt
import Derived.Deep.DeepMust
namespace Go.Proofs.YthknfclhkmehgaaDoor.Fn
open Go.RowKit Go.Proofs.YthknfclhkmehgaaDoorW.PrintWords Go.Proofs.YthknfclhkmehgaaDoorW.PrintLast Go.Proofs.YthknfclhkmehgaaDoorW.PrintMore
set_option linter.unusedVariables false
set_option linter.unusedSimpArgs false

def api_TrieNode.f (l0 : List S77) : Option (List S77) := if l0.length < 1599289640401 then some l0 else none

theorem eql_some_nil {P : Program} (w : World) {t e : TypeId} (a : Addr) (n c : Nat) (ht : P.underlying t = some (.slice e)) :
    (binOp .eql t (.slice (some a) n c) (.slice none 0 0)).run P w = .ok (.bool false) w := by
  have h : ∀ d : Nat, (Op.equalIn (d + 1) t (.slice (some a) n c) (.slice none 0 0)).run P w = .ok false w := fun d => by
    simp [Op.equalIn, run_underlying ht]
  simp only [binOp]
  simp [Op.equal, Op.maxDepth, h 9999]
theorem eql_nil_nil {P : Program} (w : World) {t e : TypeId} (n c : Nat) (ht : P.underlying t = some (.slice e)) :
    (binOp .eql t (.slice none n c) (.slice none 0 0)).run P w = .ok (.bool true) w := by
  have h : ∀ d : Nat, (Op.equalIn (d + 1) t (.slice none n c) (.slice none 0 0)).run P w = .ok true w := fun d => by
    simp [Op.equalIn, run_underlying ht]
  simp only [binOp]
  simp [Op.equal, Op.maxDepth, h 9999]

set_option maxHeartbeats 4000000 in
set_option maxRecDepth 100000 in
theorem api_TrieNode.calls (A0_0 : Option Addr) (c0_0 : Nat) (l0_0 : List S77) (r : List S77) (w : World) (hr0_0 : Kd.C k77 w A0_0 l0_0.length l0_0) (hc0_0 : l0_0.length ≤ c0_0) (h : api_TrieNode.f l0_0 = some r) :
    Calls Tryd.prog 42 #[.slice A0_0 l0_0.length c0_0] w fun e w' => ∃ v0_ : Value, e = .returned (v0_) ∧ Kd.R k77 77 w' w.heap.size (fun _ => True) v0_ r ∧ Below w.heap.size w w' := by
  unfold api_TrieNode.f at h
  split at h
  case isFalse => cases h
  case isTrue hlen =>
  obtain rfl := Option.some.inj h
  clear h
  have HR0_0 := Aside0.mk hr0_0
  have LM := Aside0.mk hlen
  clear hlen
  cases A0_0 with
  | none =>
    have h0 : l0_0 = [] := by
      rcases Nat.eq_zero_or_pos l0_0.length with h | h
      · exact List.length_eq_zero_iff.1 h
      · obtain ⟨ad, e, _⟩ := hr0_0.2.2 h
        cases e
    subst h0
    clear hr0_0
    have hq : ∀ W : World, (binOp .eql 30 (.slice none 0 c0_0) (.slice none 0 0)).run Tryd.prog W = .ok (.bool true) W := fun W => eql_nil_nil W 0 c0_0 Tryd.underlying30
    go_enter Tryd.func42, Tryd.ntmps42
    go_wp2
    go_ret
    exact ⟨_, rfl, Kd.R_nil _ _ _ _ _, Below.refl _ _⟩
  | some ad =>
    clear hr0_0
    have HB := Aside0.mk (Below.refl w.heap.size w)
    have hq : ∀ W : World, (binOp .eql 30 (.slice (some ad) l0_0.length c0_0) (.slice none 0 0)).run Tryd.prog W = .ok (.bool false) W := fun W => eql_some_nil W ad _ _ Tryd.underlying30
    go_enter Tryd.func42, Tryd.ntmps42
    go_wp2_with (first
      | ((with_reducible refine gate_dst (N := 5) rfl ?_); refine Kd.R_lit k77 _ 77 ?hg (N := 5) ?hd (xs := ([] : List S77)) (inner := []) (ok := fun _ => True) (okp := fun _ => True) ?hr ?hp (fun _ hk => hk) trivial (Below.refl _ _) (Nat.le_refl _) (by simp) ?_; (case hd => rfl); (case hg => rfl); (case hr => first | (go_simp; done) | (go_simp; rfl)); (case hp => exact (Reps.none _ _)); intro v5 w5 ho hb hg_ hnew_; clear hg_ hnew_; have HO := Aside0.mk ho; have HB5 := Aside0.mk hb; clear ho hb)
      | ((with_reducible refine gate_builtin (b := .append) (xs := #[.tmp 5, .tmp 6]) rfl ?_); at_builtin; refine Kd.R_append_rows k77 (w0 := w) w.heap.size rfl (.tmp 5) (.tmp 6) 30 77 (.agg #[(.int .i64 0), (.int .i64 0), (.int .i64 0), (.int .i64 0), (.int .i64 0), (.int .i64 0), (.int .i64 0), (.int .i64 0), (.int .i64 0), (.int .i64 0), (.int .i64 0)]) 88 rfl Tryd.underlying30 info77 rfl (by decide) (by omega) v5 [] l0_0 _ _ _ (fun _ => True) (fun _ => False) rfl rfl ?aO ?aR (fun _ _ h => h) (fun _ h => h.elim) ?aF ?aB ?aS ?aL ?_; (case aR => exact Kd.C_below HR0_0.out HB5.out); (case aB => exact HB5.out); (case aF => exact (fun _ _ => trivial)); (case aO => exact HO.out); (case aS => exact HB5.out.size); (case aL => have := LM.out; simp; omega); intro v7 w7 ho hb hg hat; have HO7 := Aside0.mk ho; have HB7 := Aside0.mk hb; clear ho hb hg hat))
    go_ret
    exact ⟨_, rfl, by simpa using HO7.out, HB7.out⟩

end Go.Proofs.YthknfclhkmehgaaDoor.Fn
namespace Go.Proofs.YthknfclhkmehgaaDoor.Fn
open Go.RowKit Go.Proofs.YthknfclhkmehgaaDoorW.PrintWords Go.Proofs.YthknfclhkmehgaaDoorW.PrintLast Go.Proofs.YthknfclhkmehgaaDoorW.PrintMore
set_option linter.unusedVariables false
set_option linter.unusedSimpArgs false

/-- A node with a child, with a value. -/
def setKd (x : S77) (j v : Int) : S77 := ⟨⟨pk 0 j v x.f0.f0, pk 1 j v x.f0.f1, pk 2 j v x.f0.f2, pk 3 j v x.f0.f3, pk 4 j v x.f0.f4, pk 5 j v x.f0.f5, pk 6 j v x.f0.f6, pk 7 j v x.f0.f7, pk 8 j v x.f0.f8, pk 9 j v x.f0.f9⟩, x.f1⟩
def setVl (x : S77) (v : Int) : S77 := ⟨x.f0, v⟩
def cellsN (x : S77) : List Value := [.int .i64 x.f0.f0, .int .i64 x.f0.f1, .int .i64 x.f0.f2, .int .i64 x.f0.f3, .int .i64 x.f0.f4, .int .i64 x.f0.f5, .int .i64 x.f0.f6, .int .i64 x.f0.f7, .int .i64 x.f0.f8, .int .i64 x.f0.f9, .int .i64 x.f1]
theorem cellsN_kid (x : S77) (j v : Int) (h0 : 0 ≤ j) (h1 : j < 10) : (cellsN x).take j.toNat ++ [.int .i64 v] ++ (cellsN x).drop (j.toNat + 1) = cellsN (setKd x j v) := by
  obtain ⟨n, rfl⟩ : ∃ n : Nat, j = n := ⟨j.toNat, by omega⟩
  have hn : n < 10 := by omega
  simp only [Int.toNat_natCast]
  match n, hn with
  | 0, _ => rfl
  | 1, _ => rfl
  | 2, _ => rfl
  | 3, _ => rfl
  | 4, _ => rfl
  | 5, _ => rfl
  | 6, _ => rfl
  | 7, _ => rfl
  | 8, _ => rfl
  | 9, _ => rfl

/-- The nodes grown by the way of a digit string; where it ends. -/
def growS : List S77 → Int → List UInt8 → List S77 × Int
  | ns, a, [] => (ns, a)
  | ns, a, b :: s => if Tr.kid (tt ns) a.toNat (Tr.dgt b) = 0 then growS (ns.set a.toNat (setKd (rd_T77 ns a) (Tr.dgt b : Int) (ns.length : Int)) ++ [z77]) (ns.length : Int) s
      else growS ns (Tr.kid (tt ns) a.toNat (Tr.dgt b)) s

theorem tt_set (ns : List S77) (i : Nat) (x : S77) : tt (ns.set i x) = (tt ns).set i (tn x) := by simp [tt, List.map_set]
theorem tt_append (a b : List S77) : tt (a ++ b) = tt a ++ tt b := by simp [tt]
theorem tn_setKd (x : S77) (d : Nat) (hd : d < 10) (v : Int) : tn (setKd x (d : Int) v) = ⟨(tn x).kids.set d v, (tn x).val⟩ := by
  match d, hd with
  | 0, _ => rfl
  | 1, _ => rfl
  | 2, _ => rfl
  | 3, _ => rfl
  | 4, _ => rfl
  | 5, _ => rfl
  | 6, _ => rfl
  | 7, _ => rfl
  | 8, _ => rfl
  | 9, _ => rfl
theorem rd_getD (ns : List S77) (a : Int) : rd_T77 ns a = ns.getD a.toNat z77 := rfl
theorem tt_sprout (ns : List S77) (a d : Nat) (hd : d < 10) : tt (ns.set a (setKd (rd_T77 ns (a : Int)) (d : Int) (ns.length : Int)) ++ [z77]) = Tr.sprout (tt ns) a d := by
  rw [tt_append, tt_set, tn_setKd _ _ hd, rd_getD, Int.toNat_natCast]
  unfold Tr.sprout Tr.setKid
  rw [tt_getD, tt_length]
  rfl

theorem inn_sprout {ns : List S77} (h : Inn (tt ns)) {a d : Nat} (ha : a < ns.length) (hd : d < 10) : Inn (tt (ns.set a (setKd (rd_T77 ns (a : Int)) (d : Int) (ns.length : Int)) ++ [z77])) := by
  rw [tt_sprout ns a d hd]
  intro i e hi he
  rw [Tr.length_sprout, tt_length] at hi ⊢
  have hk := Tr.kid_sprout (tt_ten ns) (i := a) (d := d) (by rw [tt_length]; exact ha) hd i e
  rw [hk]
  split
  · rw [tt_length]; omega
  · by_cases hil : i < ns.length
    · have := h i e (by rw [tt_length]; exact hil) he
      rw [tt_length] at this
      omega
    · rw [Tr.kid_out (by rw [tt_length]; omega)]
      omega

open Classical in
noncomputable def trie_Put.f (k : Nat) (l0 : List S77) (s : ByteArray) (v : Int) : Option (List S77 × Int) :=
  (trie_checked.f k l0 s).bind fun e => if e ≠ 0 then some ([], e) else if v < 1 ∨ v > 1099511627776 then some ([], 1) else
    if Good l0 ∧ GoodS s ∧ s.size ≤ 15 then
      (if (growS l0 0 s.data.toList).1.length > 4096 then some ([], 2) else some ((growS l0 0 s.data.toList).1.set (growS l0 0 s.data.toList).2.toNat (setVl (rd_T77 (growS l0 0 s.data.toList).1 (growS l0 0 s.data.toList).2) v), 0)) else none
theorem trie_Put.mono : ∀ a0 a1 a2 k, LeO (trie_Put.f k a0 a1 a2) (trie_Put.f (k + 1) a0 a1 a2) := fun a0 a1 _ k => LeO.bind (trie_checked.mono a0 a1 k) (fun _ => LeO.refl _)

theorem wrap64_eq {x : Int} (h0 : -9223372036854775808 ≤ x) (h1 : x < 9223372036854775808) : wrap64 x = x := by
  unfold wrap64
  omega
theorem add_off (g o j : Nat) : (⟨g, o, none⟩ : Addr).add j = ⟨g, o + j, none⟩ := by unfold Addr.add; split <;> simp_all
theorem R_base_of {α : Type} {d : Kd α} {e : Nat} {W : World} {base : Nat} {ok : Nat → Prop} {v : Value} {xs : List α} (h : Kd.R d e W base ok v xs) : ∀ k, v.ownBlock = some k → base ≤ k := by
  obtain ⟨_, inner, ho, _⟩ := h
  exact own_base ho
theorem R_far_of {α : Type} {d : Kd α} {e : Nat} {W : World} {base : Nat} {ok : Nat → Prop} {v : Value} {xs : List α} (h : Kd.R d e W base ok v xs) {r : Nat} {o : Obj} (ho : W.heap[r]? = some o) (hc : ∀ cs, o ≠ .cells cs e (0, 0)) : some r ≠ v.ownBlock := by
  obtain ⟨_, inner, hw, _⟩ := h
  rcases hw.2 with ⟨rfl, _⟩ | ⟨g, cap, cur, rfl, _, hg, _⟩
  · simp [Value.ownBlock]
  · intro he
    have : r = g := by simpa [Value.ownBlock] using he
    subst this
    rw [ho] at hg
    exact hc _ (Option.some.inj hg)
theorem put_facts (n m : Nat) (i : Int) (h : (n : Int) ≤ 4096 + i) (hm : m = n + 1) : (n : Int) < (m : Int) ∧ (m : Int) ≤ 4096 + (i + 1) := by omega
theorem put_wrap (n : Nat) (i : Int) (m : Nat) (h : (n : Int) ≤ 4096 + i) (h1 : i ≤ m) (h2 : m ≤ 15) : wrap64 (n : Int) = n := wrap64_eq (by omega) (by omega)
theorem own_shape' {α : Type} {d : Kd α} {e : Nat} {W : World} {base : Nat} {ok : Nat → Prop} {v : Value} {xs : List α} (h : Kd.R d e W base ok v xs) {n : Nat} (hn : xs.length = n) (hx : 0 < n) : ∃ g cap, v = .slice (some ⟨g, 0, none⟩) n cap := by
  subst hn
  obtain ⟨_, inner, ho, _⟩ := h
  rcases ho.2 with ⟨_, h0⟩ | ⟨g, cap, cur, e, _⟩
  · exact absurd h0 (by omega)
  · exact ⟨g, cap, e⟩
theorem own_shape {α : Type} {d : Kd α} {e : Nat} {W : World} {base : Nat} {ok : Nat → Prop} {v : Value} {xs : List α} (h : Kd.R d e W base ok v xs) (hx : 0 < xs.length) : ∃ g cap, v = .slice (some ⟨g, 0, none⟩) xs.length cap := by
  obtain ⟨_, inner, ho, _⟩ := h
  rcases ho.2 with ⟨_, h0⟩ | ⟨g, cap, cur, e, _⟩
  · exact absurd h0 (by omega)
  · exact ⟨g, cap, e⟩

set_option maxRecDepth 100000 in
set_option maxHeartbeats 4000000 in
theorem Put_in (A0 : Option Addr) (c0 : Nat) (l0 : List S77) (s : ByteArray) (v : Int) (w : World)
    (hr0 : Kd.C k77 w A0 l0.length l0) (hc0 : l0.length ≤ c0) (k : Nat) (e : Int) (he : trie_checked.f k l0 s = some e) (r : List S77 × Int)
    (hr : (e ≠ 0 ∧ r = ([], e)) ∨ (e = 0 ∧ (v < 1 ∨ v > 1099511627776) ∧ r = ([], 1)) ∨
      (e = 0 ∧ 1 ≤ v ∧ v ≤ 1099511627776 ∧ Good l0 ∧ GoodS s ∧ s.size ≤ 15 ∧ r = if (growS l0 0 s.data.toList).1.length > 4096 then ([], 2) else ((growS l0 0 s.data.toList).1.set (growS l0 0 s.data.toList).2.toNat (setVl (rd_T77 (growS l0 0 s.data.toList).1 (growS l0 0 s.data.toList).2) v), 0))) :
    Calls Tryd.prog 18 #[.agg #[.slice A0 l0.length c0], .string s, .int .i64 v] w fun e w' => ∃ v0_ : Value, e = .returned (.tuple #[.agg #[v0_], .int .i64 r.2]) ∧ Kd.R k77 77 w' w.heap.size (fun _ => True) v0_ r.1 ∧ Below w.heap.size w w' := by
  have hu24 := Tryd.underlying32
  obtain ⟨W4, hW4⟩ : ∃ W4, (w.alloc (Obj.cells #[.slice A0 l0.length c0] 32)).alloc (Obj.cells #[.slice none 0 0] 32) = W4 := ⟨_, rfl⟩
  have hB4 : Below w.heap.size w W4 := by
    rw [← hW4]
    exact below_alloc (below_alloc (Below.refl _ _) _) _
  have hz4 : W4.heap.size = w.heap.size + 2 := by rw [← hW4]; simp
  have hC4 : ∀ W, Below W4.heap.size W4 W → W.heap[w.heap.size]? = some (.cells #[.slice A0 l0.length c0] 32 (0, 0)) ∧ W.heap[w.heap.size + 1]? = some (.cells #[.slice none 0 0] 32 (0, 0)) := by
    intro W hB
    have h1 : W4.heap[w.heap.size]? = some (.cells #[.slice A0 l0.length c0] 32 (0, 0)) := by rw [← hW4]; exact blk_alloc (World.alloc_heap_new w _) _
    have h2 : W4.heap[w.heap.size + 1]? = some (.cells #[.slice none 0 0] 32 (0, 0)) := by
      rw [← hW4]
      have := World.alloc_heap_new (w.alloc (Obj.cells #[.slice A0 l0.length c0] 32)) (.cells #[.slice none 0 0] 32)
      rwa [World.size_alloc] at this
    exact ⟨blk_below h1 hB, blk_below h2 hB⟩
  have hcheck := trie_checked.calls k A0 c0 l0 s e W4 (Kd.C_below hr0 hB4) hc0 he
  obtain ⟨a0, a1⟩ := hC4 W4 (Below.refl _ _)
  have b0 : W4.cell? ⟨w.heap.size, 0, none⟩ = some (.slice A0 l0.length c0) := (blk_cell a0 0).trans rfl
  have hfin : ∀ (W : World) (a : Act) (x : Value) (l : List S77) (err : Int), Below w.heap.size w W → W.cell? ⟨w.heap.size + 1, 0, none⟩ = some x → a.tmps[6]? = some (.pointer (some ⟨w.heap.size + 1, 0, none⟩)) → a.tmps[7]? = some (.int .i64 err) → a.defers = [] → Kd.R k77 77 W w.heap.size (fun _ => True) x l →
      bodyPost Tryd.prog Tryd.f18 (fun e w' => ∃ v0_ : Value, e = .returned (.tuple #[.agg #[v0_], .int .i64 err]) ∧ Kd.R k77 77 w' w.heap.size (fun _ => True) v0_ l ∧ Below w.heap.size w w') Exit.ret a W := by
    intro W a x l err hB hc h6 h7 hd hR
    refine bodyPost_ret (v := .tuple #[.agg #[x], .int .i64 err]) ?_ hd ⟨x, rfl, hR, hB⟩
    obtain ⟨tmps, defers⟩ := a
    dsimp only at h6 h7
    simp [results, Tryd.f18, go_sem, hc, h6, h7, hu24]
  have hset : ∀ (W : World) (x : Value), W.heap[w.heap.size + 1]? = some (.cells #[.slice none 0 0] 32 (0, 0)) → (W.setCell ⟨w.heap.size + 1, 0, none⟩ x).cell? ⟨w.heap.size + 1, 0, none⟩ = some x := fun W x h => (blk_cell (blk_put h 0 x rfl) 0).trans rfl
  rcases hr with ⟨hne, rfl⟩ | ⟨rfl, hv, rfl⟩ | ⟨rfl, hv1, hv2, hg, hs, hs15, hr⟩
  · have hnb : (e != 0) = true := by simpa using hne
    go_enter Tryd.func18, Tryd.ntmps18
    go_wp2_with (go_at_call 41; (try rw [hW4]); refine hcheck.mono ?_; rintro e' W5 ⟨rfl, hB5⟩; obtain ⟨d0, d1⟩ := hC4 W5 hB5; have d2 : W5.cell? ⟨w.heap.size + 1, 0, none⟩ = some (.slice none 0 0) := (blk_cell d1 0).trans rfl; have d3 := blk_frozen d1 0; have d4 : W5.cell? ⟨w.heap.size, 0, none⟩ = some (.slice A0 l0.length c0) := (blk_cell d0 0).trans rfl)
    exact hfin _ _ (.slice none 0 0) [] e ((hB4.trans (hB5.mono hB4.size)).setCell (by simp) _) (hset W5 _ d1) rfl rfl rfl (Kd.R_nil _ _ _ _ _)
  · by_cases hv1 : v < 1
    · have p1 : decide (v < 1) = true := decide_eq_true hv1
      clear hv
      go_enter Tryd.func18, Tryd.ntmps18
      go_wp2_with (go_at_call 41; (try rw [hW4]); refine hcheck.mono ?_; rintro e' W5 ⟨rfl, hB5⟩; obtain ⟨d0, d1⟩ := hC4 W5 hB5; have d2 : W5.cell? ⟨w.heap.size + 1, 0, none⟩ = some (.slice none 0 0) := (blk_cell d1 0).trans rfl; have d3 := blk_frozen d1 0; have d4 : W5.cell? ⟨w.heap.size, 0, none⟩ = some (.slice A0 l0.length c0) := (blk_cell d0 0).trans rfl)
      exact hfin _ _ (.slice none 0 0) [] 1 ((hB4.trans (hB5.mono hB4.size)).setCell (by simp) _) (hset W5 _ d1) rfl rfl rfl (Kd.R_nil _ _ _ _ _)
    · have p1 : decide (v < 1) = false := decide_eq_false (by omega)
      have p2 : decide (1099511627776 < v) = true := decide_eq_true (by omega)
      clear hv
      go_enter Tryd.func18, Tryd.ntmps18
      go_wp2_with (go_at_call 41; (try rw [hW4]); refine hcheck.mono ?_; rintro e' W5 ⟨rfl, hB5⟩; obtain ⟨d0, d1⟩ := hC4 W5 hB5; have d2 : W5.cell? ⟨w.heap.size + 1, 0, none⟩ = some (.slice none 0 0) := (blk_cell d1 0).trans rfl; have d3 := blk_frozen d1 0; have d4 : W5.cell? ⟨w.heap.size, 0, none⟩ = some (.slice A0 l0.length c0) := (blk_cell d0 0).trans rfl)
      exact hfin _ _ (.slice none 0 0) [] 1 ((hB4.trans (hB5.mono hB4.size)).setCell (by simp) _) (hset W5 _ d1) rfl rfl rfl (Kd.R_nil _ _ _ _ _)
  · have p1 : decide (v < 1) = false := decide_eq_false (by omega)
    have p2 : decide (1099511627776 < v) = false := decide_eq_false (by omega)
    replace hv1 := Aside0.mk hv1
    replace hv2 := Aside0.mk hv2
    replace hg := Aside0.mk hg
    replace hs := Aside0.mk hs
    replace hs15 := Aside0.mk hs15
    have kb := fun W => print_bytes (P := Tryd.prog) 9 78 5 Tryd.underlying9 Tryd.underlying78 Tryd.underlying5 s W
    have hclone : ∀ W5 : World, Below W4.heap.size W4 W5 → Calls Tryd.prog 42 _ _ _ := fun W5 hB5 => api_TrieNode.calls A0 c0 l0 l0 W5 (Kd.C_below hr0 (hB4.trans (hB5.mono hB4.size))) hc0 (if_pos (by have := hg.out.2.2; omega))
    go_enter Tryd.func18, Tryd.ntmps18
    go_wp2_with (first
      | (go_at_call 41; (try rw [hW4]); refine hcheck.mono ?_; rintro e' W5 ⟨rfl, hB5⟩; obtain ⟨d0, d1⟩ := hC4 W5 hB5; have d2 : W5.cell? ⟨w.heap.size + 1, 0, none⟩ = some (.slice none 0 0) := (blk_cell d1 0).trans rfl; have d3 := blk_frozen d1 0; have d4 : W5.cell? ⟨w.heap.size, 0, none⟩ = some (.slice A0 l0.length c0) := (blk_cell d0 0).trans rfl)
      | (go_at_call 42; refine (hclone W5 hB5).mono ?_; rintro e' W6 ⟨vl, rfl, hR6, hB6⟩))
    obtain ⟨g, cap, rfl⟩ : ∃ g cap, vl = .slice (some ⟨g, 0, none⟩) l0.length cap := own_shape hR6 hg.out.2.1
    go_wp2
    obtain ⟨bo, hbo⟩ : ∃ bo, (Lib.bytesWorld W6 5 s).heap[W6.heap.size]? = some bo := ⟨_, Lib.bytesWorld_at_new W6 5 s⟩
    have hbo71 : ∀ cs, bo ≠ .cells cs 77 (0, 0) := by
      intro cs e
      rw [Lib.bytesWorld_at_new] at hbo
      rw [e] at hbo
      cases hbo
    have hbyte : ∀ W : World, W.heap[W6.heap.size]? = some bo → ∀ i : Int, 0 ≤ i → i < s.size → W.cell? ⟨W6.heap.size, i.toNat, none⟩ = some (.int .u8 (bt s i)) := by
      intro W hW i h0 h1
      rw [World.cell?_of_block (w := Lib.bytesWorld W6 5 s) (hW.trans hbo.symm), Lib.bytesWorld_cell W6 5 s i.toNat (by omega), ← rd_bytesOf]
      unfold rd bytesOf
      rw [List.getD_eq_getElem?_getD, List.getD_eq_getElem?_getD, List.getElem?_map]
      rw [List.getElem?_eq_getElem (by rw [data_length]; omega)]
      rfl
    have hB06 : Below W4.heap.size W4 W6 := below_then hB5 hB5.size hB6
    have hBw6 : Below w.heap.size w W6 := hB4.trans (hB06.mono hB4.size)
    have hBby : Below w.heap.size w (Lib.bytesWorld W6 5 s) := bytes_below hBw6 hBw6.size _ _
    have hRb : Kd.R k77 77 (Lib.bytesWorld W6 5 s) w.heap.size (fun _ => True) (.slice (some ⟨g, 0, none⟩) l0.length cap) l0 := Kd.R_below (Kd.R_lower hR6 (below_size (hB4.trans (hB5.mono hB4.size)))) (bytes_below (Below.refl _ _) (Nat.le_refl _) _ _)
    have hres : (Lib.bytesWorld W6 5 s).heap[w.heap.size + 1]? = some (.cells #[.slice none 0 0] 32 (0, 0)) := by
      rw [Lib.bytesWorld_at_old _ _ _ _ (by have := hB06.size; omega)]
      exact (hC4 W6 hB06).2
    generalize Lib.bytesWorld W6 5 s = Wb at hbo hBby hRb hres ⊢
    go_loopw [9, 10, 34] (fun x9 x10 x34 wr => ∃ (ns : List S77) (g cap : Nat) (a i : Int), x9 = .slice (some ⟨g, 0, none⟩) ns.length cap ∧ x10 = .int .i64 a ∧ x34 = .int .i64 i ∧ 0 ≤ i ∧ i ≤ s.size ∧ 0 ≤ a ∧ a < ns.length ∧
        growS ns a (s.data.toList.drop i.toNat) = growS l0 0 s.data.toList ∧ Inn (tt ns) ∧ (ns.length : Int) ≤ 4096 + i ∧ Kd.R k77 77 wr w.heap.size (fun _ => True) (.slice (some ⟨g, 0, none⟩) ns.length cap) ns ∧
        wr.heap[W6.heap.size]? = some bo ∧ wr.heap[w.heap.size + 1]? = some (.cells #[.slice none 0 0] 32 (0, 0)) ∧ Below w.heap.size w wr)
      (fun _ _ x34 _ => s.size - (intOf x34).toNat)
    case atStart => exact ⟨l0, g, cap, 0, 0, rfl, rfl, rfl, by omega, by omega, by omega, by have := hg.out.2.1; omega, rfl, hg.out.1, by have := hg.out.2.2; omega, hRb, hbo, hres, hBby⟩
    case round =>
      clear hRb hbo hres hBby
      obtain ⟨ns, g, cap, a, i, rfl, rfl, rfl, hi0, hi1, ha0, ha1, hgr, hin, hnl, hR, hbo, hres, hBW⟩ := hrel
      by_cases hlt : i < s.size
      · have hb := strByte s i.toNat (by omega)
        have hbd : Tr.IsDig s[i.toNat] := hs.out.2 _ (by simp [ByteArray.getElem_eq_getElem_data])
        have hbt := bt_nat s i hi0 hlt
        have hx6 := hbyte wr hbo i hi0 hlt
        obtain ⟨ji, hji⟩ : ∃ j_ : Int, IntKind.u8.wrap (bt s i - 48) = j_ := ⟨_, rfl⟩
        have hjn : ji = (Tr.dgt s[i.toNat] : Int) := by
          rw [← hji, hbt]
          have h1 := hbd.1
          have h2 := hbd.2
          rw [u8_wrap (by omega) (by omega)]
          unfold Tr.dgt
          omega
        have hd10 : Tr.dgt s[i.toNat] < 10 := by
          have h2 := hbd.2
          unfold Tr.dgt
          omega
        obtain ⟨hnn, hnc, hC⟩ := Kd.R_reads' hR
        obtain ⟨ad, had, hcell⟩ := kid_cell' hC a ji ha0 ha1 (by omega) (by omega)
        cases had
        rw [add_off, add_off, Nat.zero_add] at hcell
        obtain ⟨c, hcl, hM, hcc, hfz⟩ := Kd.R_elem hR z77 a ha0 ha1
        rw [← rd_getD] at hM
        have hce : c = cellsN (rd_T77 ns a) := k77_openM hM
        subst hce
        have hfz' : wr.frozen? ⟨g, a.toNat * 11 + ji.toNat, none⟩ = false := hfz ji.toNat
        have hseg := Kd.R_seg hR a ha0 ha1 (seg := [.int .i64 (ns.length : Int)]) (j := ji.toNat) (x' := setKd (rd_T77 ns a) ji (ns.length : Int)) (okp := fun _ => False) hcl hcc (by show ji.toNat + 1 ≤ 11; omega) (by
          rw [show ji.toNat + [Value.int .i64 (ns.length : Int)].length = ji.toNat + 1 from rfl, cellsN_kid _ _ _ (by omega) (by omega)]
          exact k77_mkM _ _ _ _) (fun _ h => h.elim)
        have hR2 : Kd.R k77 77 (wr.setCell ⟨g, a.toNat * 11 + ji.toNat, none⟩ (.int .i64 (ns.length : Int))) w.heap.size (fun _ => True) (.slice (some ⟨g, 0, none⟩) ns.length cap) (ns.set a.toNat (setKd (rd_T77 ns a) ji (ns.length : Int))) := hseg.1
        have hg2 : wr.grownBy (wr.setCell ⟨g, a.toNat * 11 + ji.toNat, none⟩ (.int .i64 (ns.length : Int))) (some g) := hseg.2
        clear hseg hcc hM hfz hcl
        have hkid := hin a.toNat ji.toNat (by rw [tt_length]; omega) (by omega)
        rw [tt_length] at hkid
        have hjt := Aside0.mk (show ji.toNat = Tr.dgt s[i.toNat] by omega)
        generalize hK : Tr.kid (tt ns) a.toNat ji.toNat = K at hcell hkid
        have p1 : (0 ≤ i) = True := eq_true hi0
        have p2 : (i < s.size) = True := eq_true hlt
        have p3 : (0 ≤ a) = True := eq_true ha0
        have p4 : (a < ns.length) = True := eq_true ha1
        have p5 : (0 ≤ ji) = True := eq_true (by omega)
        have p6 : (ji < 10) = True := eq_true (by omega)
        have hgrow : growS ns a (s.data.toList.drop i.toNat) = if K = 0 then growS (ns.set a.toNat (setKd (rd_T77 ns a) ji (ns.length : Int)) ++ [z77]) (ns.length : Int) (s.data.toList.drop (i.toNat + 1)) else growS ns K (s.data.toList.drop (i.toNat + 1)) := by
          rw [hb, growS, ← hjt.out, hK, hjn]
          simp
        rw [hgrow] at hgr
        have hinn : K = 0 → Inn (tt (ns.set a.toNat (setKd (rd_T77 ns a) ji (ns.length : Int)) ++ [z77])) := by
          intro _
          have := inn_sprout hin (a := a.toNat) (d := ji.toNat) (by omega) (by omega)
          rwa [Int.toNat_of_nonneg ha0, Int.toNat_of_nonneg (by omega : 0 ≤ ji)] at this
        replace hb := Aside0.mk hb
        replace hkid := Aside0.mk hkid
        replace hK := Aside0.mk hK
        replace hgr := Aside0.mk hgr
        replace hinn := Aside0.mk hinn
        have hin' := Aside0.mk hin
        have hj0 : 0 ≤ ji := by omega
        have hj1 : ji < 10 := by omega
        have hwi : wrap64 (i + 1) = i + 1 := wrap64_eq (by omega) (by have := hs15.out; omega)
        replace hR2 := Aside0.mk hR2
        replace hg2 := Aside0.mk hg2
        replace hR := Aside0.mk hR
        replace hC := Aside0.mk hC
        clear hbt hjn hbd hd10 hgrow hin
        by_cases hk0 : K = 0
        · have hk0b : (K == 0) = true := beq_iff_eq.2 hk0
          obtain ⟨Wc, hWc⟩ : ∃ Wc, wr.setCell ⟨g, a.toNat * 11 + ji.toNat, none⟩ (.int .i64 (ns.length : Int)) = Wc := ⟨_, rfl⟩
          rw [hWc] at hR2 hg2
          have hw2 : wrap64 ((ns.length : Int) + 1 - 1) = ns.length := by have := hs15.out; rw [wrap64_eq (by omega) (by omega)]; omega
          have hw3 : wrap64 (((ns.length + 1 : Nat) : Int) - 1) = ns.length := by have := hs15.out; rw [wrap64_eq (by omega) (by omega)]; omega
          have hsl : (ns.set a.toNat (setKd (rd_T77 ns a) ji (ns.length : Int)) ++ [z77]).length = ns.length + 1 := by simp
          have hq4 : 0 ≤ i + 1 := by omega
          have hq5 : i + 1 ≤ s.size := by omega
          have hq6 : (0 : Int) ≤ (ns.length : Int) := by omega
          have hq7 : (ns.length : Int) < ((ns.set a.toNat (setKd (rd_T77 ns a) ji (ns.length : Int)) ++ [z77]).length : Int) := (put_facts ns.length _ i hnl hsl).1
          have hq8 : ((ns.set a.toNat (setKd (rd_T77 ns a) ji (ns.length : Int)) ++ [z77]).length : Int) ≤ 4096 + (i + 1) := (put_facts ns.length _ i hnl hsl).2
          replace hq4 := Aside0.mk hq4
          replace hq5 := Aside0.mk hq5
          replace hq6 := Aside0.mk hq6
          replace hq7 := Aside0.mk hq7
          replace hq8 := Aside0.mk hq8
          replace hsl := Aside0.mk hsl
          have hq2 := Aside0.mk (congrArg (Value.int IntKind.i64) (put_wrap ns.length i s.size hnl hi1 hs15.out))
          have hq3 := Aside0.mk (congrArg (Value.int IntKind.i64) hwi)
          have hsc : w.heap.size ≤ Wc.heap.size := Nat.le_trans hBW.size hg2.out.size
          go_wp2_with ((with_reducible refine gate_builtin (b := .append) (xs := #[.tmp 53, .tmp 55]) rfl ?_); at_builtin; go_must (refine Kd.R_append k77 (w0 := w) w.heap.size rfl (.tmp 53) (.tmp 55) 30 77 (.agg #[(.int .i64 0), (.int .i64 0), (.int .i64 0), (.int .i64 0), (.int .i64 0), (.int .i64 0), (.int .i64 0), (.int .i64 0), (.int .i64 0), (.int .i64 0), (.int .i64 0)]) 88 rfl Tryd.underlying30 info77 rfl (by decide) (by omega) (.slice (some ⟨g, 0, none⟩) ns.length cap) (ns.set a.toNat (setKd (rd_T77 ns a) ji (ns.length : Int))) z77 (cellsN z77) (fun _ => True) (fun _ => False) rfl rfl ?aP (fun _ hk => hk.elim) ?aF ?aO ?aB ?aS ?aL ?_); (case aP => go_must (exact k77_mkM _ _ _ z77)); (case aB => go_must (exact hBW.grown hg2.out hBW.size (fun k e => by cases e; exact R_base_of hR.out _ rfl))); (case aF => exact (fun _ _ => trivial)); (case aO => go_must (exact hR2.out)); (case aS => go_must (exact hsc)); (case aL => go_must (simp; have := hs15.out; omega)); intro v1 w1 ho hb1 hg1 hat; have ho := Aside0.mk ho; have hb1 := Aside0.mk hb1; have hg1 := Aside0.mk hg1; clear hat; obtain ⟨g1', cap1, rfl⟩ := own_shape' ho.out (n := ns.length + 1) (by simp) (by omega))
          have hbne : some W6.heap.size ≠ some g := R_far_of hR.out hbo hbo71
          have hrne : some (w.heap.size + 1) ≠ some g := R_far_of hR.out hres (by rintro cs ⟨⟩)
          have hbo1 : w1.heap[W6.heap.size]? = some bo := by
            have h2 := (hg2.out.block _ (blk_lt hbo) hbne).trans hbo
            exact (hg1.out.block _ (blk_lt h2) hbne).trans h2
          have hres1 : w1.heap[w.heap.size + 1]? = some (.cells #[.slice none 0 0] 32 (0, 0)) := by
            have h2 := (hg2.out.block _ (blk_lt hres) hrne).trans hres
            exact (hg1.out.block _ (blk_lt h2) hrne).trans h2
          have hR9 := ho.out
          rw [← hsl.out] at hR9
          refine ⟨⟨ns.set a.toNat (setKd (rd_T77 ns a) ji (ns.length : Int)) ++ [z77], g1', cap1, (ns.length : Int), i + 1, congrArg (fun m => Value.slice (some ⟨g1', 0, none⟩) m cap1) hsl.out.symm, hq2.out, hq3.out, hq4.out, hq5.out, hq6.out, hq7.out, ?_, hinn.out hk0, hq8.out, hR9, hbo1, hres1, hb1.out⟩, ?_⟩
          · rw [← hgr.out, if_pos hk0, show (i + 1).toNat = i.toNat + 1 by omega]
          · simp [intOf, hwi]; omega
        · have hk0b : (K == 0) = false := beq_eq_false_iff_ne.2 hk0
          go_wp2
          refine ⟨⟨ns, g, cap, K, i + 1, rfl, rfl, by rw [hwi], by omega, by omega, hkid.out.1, hkid.out.2, ?_, hin'.out, by omega, hR.out, hbo, hres, hBW⟩, ?_⟩
          · rw [← hgr.out, if_neg hk0, show (i + 1).toNat = i.toNat + 1 by omega]
          · simp [intOf, hwi]; omega
      · have hie : i.toNat = s.size := by omega
        rw [hie, List.drop_of_length_le (by simp), growS] at hgr
        rw [← hgr] at hr
        clear hgr
        have hbne := R_far_of hR hbo hbo71
        have hrne := R_far_of hR hres (by rintro cs ⟨⟩)
        by_cases hl : ns.length > 4096
        · rw [if_pos hl] at hr
          subst hr
          have p7 : decide (4096 < (ns.length : Int)) = true := decide_eq_true (by omega)
          have p8 : decide (4096 < ns.length) = true := decide_eq_true (by omega)
          have e2 : wr.cell? ⟨w.heap.size + 1, 0, none⟩ = some (.slice none 0 0) := (blk_cell hres 0).trans rfl
          have e3 := blk_frozen hres 0
          replace hR := Aside0.mk hR
          go_wp2
          exact hfin _ _ (.slice none 0 0) [] 2 (hBW.setCell (by simp) _) (hset wr _ hres) rfl rfl rfl (Kd.R_nil _ _ _ _ _)
        · rw [if_neg hl] at hr
          subst hr
          have p7 : decide (4096 < (ns.length : Int)) = false := decide_eq_false (by omega)
          have p8 : decide (4096 < ns.length) = false := decide_eq_false (by omega)
          obtain ⟨hnn, hnc, hC⟩ := Kd.R_reads' hR
          obtain ⟨c, hcl, hM, hcc, hfz⟩ := Kd.R_elem hR z77 a ha0 ha1
          rw [← rd_getD] at hM
          have hce : c = cellsN (rd_T77 ns a) := k77_openM hM
          subst hce
          have hf10 : wr.frozen? ⟨g, a.toNat * 11 + 10, none⟩ = false := hfz 10
          have hc10 : wr.cell? ⟨g, a.toNat * 11 + 10, none⟩ = some (.int .i64 (rd_T77 ns a).f1) := hcc 10 _ rfl
          have hseg := Kd.R_seg hR a ha0 ha1 (seg := [.int .i64 v]) (j := 10) (x' := setVl (rd_T77 ns a) v) (okp := fun _ => False) hcl hcc (by show 10 + 1 ≤ 11; omega) (k77_mkM _ _ _ _) (fun _ h => h.elim)
          have hR2 : Kd.R k77 77 (wr.setCell ⟨g, a.toNat * 11 + 10, none⟩ (.int .i64 v)) w.heap.size (fun _ => True) (.slice (some ⟨g, 0, none⟩) ns.length cap) (ns.set a.toNat (setVl (rd_T77 ns a) v)) := hseg.1
          have hg2 : wr.grownBy (wr.setCell ⟨g, a.toNat * 11 + 10, none⟩ (.int .i64 v)) (some g) := hseg.2
          have hgb := R_base_of hR _ rfl
          have hres2 : (wr.setCell ⟨g, a.toNat * 11 + 10, none⟩ (.int .i64 v)).heap[w.heap.size + 1]? = some (.cells #[.slice none 0 0] 32 (0, 0)) := (hg2.block _ (blk_lt hres) hrne).trans hres
          have hB2 : Below w.heap.size w (wr.setCell ⟨g, a.toNat * 11 + 10, none⟩ (.int .i64 v)) := hBW.grown hg2 hBW.size (fun k e => by cases e; exact hgb)
          obtain ⟨W9, hW9⟩ : ∃ W9, wr.setCell ⟨g, a.toNat * 11 + 10, none⟩ (.int .i64 v) = W9 := ⟨_, rfl⟩
          rw [hW9] at hR2 hres2 hB2
          have e2 : W9.cell? ⟨w.heap.size + 1, 0, none⟩ = some (.slice none 0 0) := (blk_cell hres2 0).trans rfl
          have e3 := blk_frozen hres2 0
          have p3 : (0 ≤ a) = True := eq_true ha0
          have p4 : (a < ns.length) = True := eq_true ha1
          have hR3 := Aside0.mk (Kd.R_set hR2 hres2 (by decide) 0 (.slice (some ⟨g, 0, none⟩) ns.length cap))
          clear hseg hcc hM hfz hcl hR hR2 hg2 hC
          go_wp2
          exact hfin _ _ _ _ 0 (hB2.setCell (by simp) _) (hset W9 _ hres2) rfl rfl rfl hR3.out

theorem trie_Put.calls (k : Nat) (A0 : Option Addr) (c0 : Nat) (l0 : List S77) (a1 : ByteArray) (a2 : Int) (r1 : List S77) (r2 : Int) (w : World) (hr0 : Kd.C k77 w A0 l0.length l0) (hc0 : l0.length ≤ c0) (h : trie_Put.f k l0 a1 a2 = some (r1, r2)) :
    Calls Tryd.prog 18 #[.agg #[.slice A0 l0.length c0], .string a1, .int .i64 a2] w fun e w' => ∃ v0_ : Value, e = .returned (.tuple #[.agg #[v0_], .int .i64 r2]) ∧ Kd.R k77 77 w' w.heap.size (fun _ => True) v0_ r1 ∧ Below w.heap.size w w' := by
  unfold trie_Put.f at h
  cases he : trie_checked.f k l0 a1 with
  | none => rw [he] at h; cases h
  | some e =>
    rw [he, Option.bind_some] at h
    have fin := fun hr => Put_in A0 c0 l0 a1 a2 w hr0 hc0 k e he (r1, r2) hr
    by_cases hne : e ≠ 0
    · rw [if_pos hne] at h
      exact fin (.inl ⟨hne, (Option.some.inj h).symm⟩)
    · rw [if_neg hne] at h
      have he0 : e = 0 := by omega
      by_cases hv : a2 < 1 ∨ a2 > 1099511627776
      · rw [if_pos hv] at h
        exact fin (.inr (.inl ⟨he0, hv, (Option.some.inj h).symm⟩))
      · rw [if_neg hv] at h
        split at h
        case isFalse => cases h
        case isTrue hg =>
          refine fin (.inr (.inr ⟨he0, by omega, by omega, hg.1, hg.2.1, hg.2.2, ?_⟩))
          split at h
          · rename_i hl; rw [if_pos hl]; exact (Option.some.inj h).symm
          · rename_i hl; rw [if_neg hl]; exact (Option.some.inj h).symm

end Go.Proofs.YthknfclhkmehgaaDoor.Fn
