/-
  The laws' arguments, opened: a trie by value; a world in which the two listed tables lie.
-/
import Derived.Test.YthknfclhkmehgaaDoorFn8
import Derived.Test.YthknfclhkmehgaaDoorRows
import Derived.Deep.Slices
import Derived.Deep.Fields
import Derived.OpenShut
import Derived.ChangeSame
import Derived.Lib.LaidIn
import Derived.Lib.LaidU8
import Derived.Deep.DeepHandedRow
import Derived.ProofKit
import Derived.WalkKit
namespace Go.Proofs.YthknfclhkmehgaaDoor.Fn
open Go.RowKit Go.Proofs.YthknfclhkmehgaaDoorW.PrintWords Go.Proofs.YthknfclhkmehgaaDoorW.PrintLast Go.Proofs.YthknfclhkmehgaaDoorW.PrintMore
open Go.ChangeShapes Go.WideShapes Go.Deep
set_option linter.unusedVariables false
set_option linter.unusedSimpArgs false

/-- Whatever reads at a type is a value of its kind. -/
def Opens {α : Type} (d : Kd α) (P : Program) (t : TypeId) : Prop := P.cellsOf t = d.sz ∧ ∀ (H : Type) (enc : TypeId × Value → H) (w : World) (base : Nat) (spare : Nat → Bool) (held : Bool) (fuel : Nat) (cs : List Value) (x : DataW H × List MemPlace),
  DataW.trod enc P w base spare held fuel t cs = some x → ∃ y : α, d.K w y cs

theorem opens_int {P : Program} {t : TypeId} {k : IntKind} (ht : P.underlying t = some (.int k)) (hc : P.cellsOf t = 1) : Opens (Kd.int k) P t := by
  refine ⟨hc, fun H enc w base spare held fuel cs x h => ?_⟩
  obtain ⟨n, rfl, _⟩ := DataW.trod_int ht h
  exact ⟨n, rfl⟩
theorem opens_string {P : Program} {t : TypeId} (ht : P.underlying t = some .string) (hc : P.cellsOf t = 1) : Opens Kd.string P t := by
  refine ⟨hc, fun H enc w base spare held fuel cs x h => ?_⟩
  obtain ⟨s, rfl, _⟩ := DataW.trod_string ht h
  exact ⟨s, rfl⟩
theorem opens_pair {P : Program} {t : TypeId} {α β : Type} {a : Kd α} {b : Kd β} {f0 f1 : Field} (ht : P.underlying t = some (.struct #[f0, f1])) (ha : Opens a P f0.type) (hb : Opens b P f1.type) (h0 : f0.offset = 0) (h1 : f1.offset = a.sz) (hc : P.cellsOf t = a.sz + b.sz) : Opens (Kd.pair a b) P t := by
  refine ⟨hc, fun H enc w base spare held fuel cs x h => ?_⟩
  obtain ⟨y0, y1, n, _, hl, e0, e1⟩ := trod_struct2 ht h
  obtain ⟨u, hu⟩ := ha.2 _ _ _ _ _ _ _ _ _ e0
  obtain ⟨v, hv⟩ := hb.2 _ _ _ _ _ _ _ _ _ e1
  refine ⟨(u, v), (cs.drop f0.offset).take (P.cellsOf f0.type), (cs.drop f1.offset).take (P.cellsOf f1.type), ?_, hu, hv⟩
  rw [h0, h1, ha.1, hb.1, List.drop_zero]
  have : (cs.drop a.sz).take b.sz = cs.drop a.sz := List.take_of_length_le (by rw [List.length_drop]; omega)
  rw [this, List.take_append_drop]
theorem opens_iso {P : Program} {t : TypeId} {α β : Type} {d : Kd α} (f : β → α) (g : α → β) (hfg : ∀ x, f (g x) = x) (h : Opens d P t) : Opens (Kd.iso d f) P t := by
  refine ⟨h.1, fun H enc w base spare held fuel cs x hx => ?_⟩
  obtain ⟨y, hy⟩ := h.2 _ _ _ _ _ _ _ _ _ hx
  exact ⟨g y, by show d.K w (f (g y)) cs; rw [hfg]; exact hy⟩

theorem ten_cells {cs : List Value} (h : cs.length = 10) : ∃ c0 c1 c2 c3 c4 c5 c6 c7 c8 c9, cs = [c0, c1, c2, c3, c4, c5, c6, c7, c8, c9] := by
  match cs, h with
  | [c0, c1, c2, c3, c4, c5, c6, c7, c8, c9], _ => exact ⟨c0, c1, c2, c3, c4, c5, c6, c7, c8, c9, rfl⟩
theorem opens_ten {P : Program} {t e : TypeId} (ht : P.underlying t = some (.array 10 e)) (he : P.underlying e = some (.int .i64)) (hce : P.cellsOf e = 1) (hct : P.cellsOf t = 10) : Opens k75 P t := by
  refine ⟨hct, fun H enc w base spare held fuel cs x h => ?_⟩
  obtain ⟨xs, m, _, _, hl, hn, hi⟩ := DataW.trod_array ht h
  obtain ⟨c0, c1, c2, c3, c4, c5, c6, c7, c8, c9, rfl⟩ := ten_cells (hl.trans hct)
  have key : ∀ (i : Nat) (c : Value), i < 10 → [c0, c1, c2, c3, c4, c5, c6, c7, c8, c9][i]? = some c → ∃ z : Int, c = .int .i64 z := by
    intro i c hil hc
    have h1 := hi i hil
    rw [hce, Nat.mul_one] at h1
    have h2 : ([c0, c1, c2, c3, c4, c5, c6, c7, c8, c9].drop i).take 1 = [c] := by
      obtain ⟨hlt, hcc⟩ := List.getElem?_eq_some_iff.1 hc
      rw [List.drop_eq_getElem_cons hlt, hcc]
      rfl
    rw [h2, List.getElem?_eq_getElem (by omega)] at h1
    obtain ⟨z, hz, _⟩ := DataW.trod_int he h1
    exact ⟨z, by simpa using hz⟩
  obtain ⟨z0, rfl⟩ := key 0 c0 (by omega) rfl
  obtain ⟨z1, rfl⟩ := key 1 c1 (by omega) rfl
  obtain ⟨z2, rfl⟩ := key 2 c2 (by omega) rfl
  obtain ⟨z3, rfl⟩ := key 3 c3 (by omega) rfl
  obtain ⟨z4, rfl⟩ := key 4 c4 (by omega) rfl
  obtain ⟨z5, rfl⟩ := key 5 c5 (by omega) rfl
  obtain ⟨z6, rfl⟩ := key 6 c6 (by omega) rfl
  obtain ⟨z7, rfl⟩ := key 7 c7 (by omega) rfl
  obtain ⟨z8, rfl⟩ := key 8 c8 (by omega) rfl
  obtain ⟨z9, rfl⟩ := key 9 c9 (by omega) rfl
  exact ⟨⟨z0, z1, z2, z3, z4, z5, z6, z7, z8, z9⟩, [_], _, rfl, rfl, [_], _, rfl, rfl, [_], _, rfl, rfl, [_], _, rfl, rfl, [_], _, rfl, rfl, [_], _, rfl, rfl, [_], _, rfl, rfl, [_], _, rfl, rfl, [_], _, rfl, rfl, rfl⟩

theorem opens_row {P : Program} {t e : TypeId} {α : Type} {d : Kd α} (ht : P.underlying t = some (.slice e)) (he : Opens d P e)
    {H : Type} {enc : TypeId × Value → H} {w : World} {base : Nat} {held : Bool} {fuel : Nat} {cs : List Value} {x : DataW H × List MemPlace} (h : DataW.trod enc P w base (fun _ => true) held fuel t cs = some x) :
    ∃ (A : Option Addr) (c : Nat) (xs : List α), cs = [.slice A xs.length c] ∧ xs.length ≤ c ∧ d.C w A xs.length xs := by
  rcases open_slice ht h with ⟨rfl, _⟩ | ⟨a, len, cap, m, n, D, Pl, rfl, _, hl, hm, hmm, _, hi⟩
  · exact ⟨none, 0, [], rfl, Nat.le_refl _, rfl, by simp, fun h => absurd h (Nat.lt_irrefl 0)⟩
  · have key : ∀ i, i < len → ∃ (y : α) (c : List Value), d.K w y c ∧ ∀ j u, c[j]? = some u → w.cell? (a.add (i * d.sz + j)) = some u := by
      intro i hil
      obtain ⟨cs', hc, htr⟩ := hi i (by rw [hmm]; simp; omega)
      obtain ⟨y, hy⟩ := he.2 _ _ _ _ _ _ _ _ _ htr
      obtain ⟨_, hcl, hat⟩ := World.cells?_some hc
      refine ⟨y, cs', hy, fun j u hju => ?_⟩
      have hj : j < cs'.length := (List.getElem?_eq_some_iff.1 hju).1
      rw [← Go.Deep.add_add, ← he.1, hat j (by omega)]
      exact hju
    have hex : ∃ f : Nat → Option (α × List Value), ∀ i, i < len → ∃ y c, f i = some (y, c) ∧ d.K w y c ∧ ∀ j u, c[j]? = some u → w.cell? (a.add (i * d.sz + j)) = some u := by
      refine ⟨fun i => if hil : i < len then some ((key i hil).choose, (key i hil).choose_spec.choose) else none, fun i hil => ?_⟩
      simp only [dif_pos hil]
      exact ⟨_, _, rfl, (key i hil).choose_spec.choose_spec⟩
    obtain ⟨f, hf⟩ := hex
    have hxs : ∀ n, n ≤ len → ∃ xs : List α, xs.length = n ∧ ∀ j y, xs[j]? = some y → ∃ c, f j = some (y, c) := by
      intro n
      induction n with
      | zero => intro _; exact ⟨[], rfl, fun j y hj => by simp at hj⟩
      | succ n ih =>
        intro hn
        obtain ⟨xs, hx1, hx2⟩ := ih (by omega)
        obtain ⟨y, c, hfy, _⟩ := hf n (by omega)
        refine ⟨xs ++ [y], by simp [hx1], fun j z hj => ?_⟩
        rcases Nat.lt_or_ge j n with hjn | hjn
        · rw [List.getElem?_append_left (by omega)] at hj
          exact hx2 j z hj
        · rw [List.getElem?_append_right (by omega)] at hj
          obtain ⟨hjl, hje⟩ := List.getElem?_eq_some_iff.1 hj
          simp only [List.length_singleton] at hjl
          obtain rfl : j = n := by omega
          simp only [hx1, Nat.sub_self, List.getElem_cons_zero] at hje
          subst hje
          exact ⟨c, hfy⟩
    obtain ⟨xs, hx1, hx2⟩ := hxs len (Nat.le_refl _)
    refine ⟨some a, cap, xs, by rw [hx1], by omega, rfl, by unfold maxLen at hm; omega, fun _ => ⟨a, rfl, fun j y hj => ?_⟩⟩
    have hjl : j < len := by rw [← hx1]; exact (List.getElem?_eq_some_iff.1 hj).1
    obtain ⟨c, hc⟩ := hx2 j y hj
    obtain ⟨y', c', h1, h2, h3⟩ := hf j hjl
    rw [hc] at h1
    simp only [Option.some.injEq, Prod.mk.injEq] at h1
    obtain ⟨rfl, rfl⟩ := h1
    exact ⟨c, d.K_len h2, h2, h3⟩

/-! ### this program's kinds -/
theorem opens_node : Opens k77 Tryd.prog 77 :=
  opens_iso _ (fun p => ⟨p.1, p.2⟩) (fun _ => rfl) (opens_pair Tryd.underlying77 (opens_ten Tryd.underlying75 Tryd.underlying3 (by kernel_rfl) (by kernel_rfl)) (opens_int Tryd.underlying3 (by kernel_rfl)) rfl rfl (by kernel_rfl))

section
variable {H : Type} {enc : TypeId × Value → H} {W : World} {base b0 : Nat} {held : Bool} {r : Reach} {v : Value} {d : DataW H} {p : List MemPlace}
set_option maxRecDepth 100000 in
theorem open_trie (hv : Value.okWide Tryd.prog W r b0 32 v) (h : DataW.Trod enc Tryd.prog W base (fun _ => true) held 32 v d p) :
    ∃ (A : Option Addr) (c : Nat) (l : List S77), v = .agg #[.slice A l.length c] ∧ Kd.C k77 W A l.length l ∧ l.length ≤ c := by
  obtain ⟨cs, rfl, hsz⟩ := okWide_struct Tryd.underlying32 hv
  obtain ⟨fuel, hf⟩ := h
  obtain ⟨y0, n, _, hl, h0⟩ := trod_struct1 Tryd.underlying32 hf
  have hc1 : Tryd.prog.cellsOf 32 = 1 := by kernel_rfl
  have hc2 : Tryd.prog.cellsOf 30 = 1 := by kernel_rfl
  obtain ⟨A, c, l, hcs, hlc, hC⟩ := opens_row Tryd.underlying30 opens_node h0
  refine ⟨A, c, l, ?_, hC, hlc⟩
  obtain ⟨cl⟩ := cs
  have hcl : cl.length = 1 := hsz.trans hc1
  simp only [hc2, List.drop_zero, Value.cells] at hcs
  rw [List.take_of_length_le (by omega)] at hcs
  rw [hcs]
end

/-! ### the witness's world: the two listed tables as their initialisers lay them -/
noncomputable def laidWorld (os : Os) : World :=
  let w0 := World.holding Tryd.prog os ⟨#[], #[], []⟩
  let put (h : Array Obj) (g : Nat) (cs : Array Value) : Array Obj := h.modify g fun
    | .cells _ t frozen => .cells cs t frozen
    | o => o
  let h1 := put w0.heap 0 (Lib.firstTab.map fun z => Value.int .u8 z).toArray
  let h2 := put h1 1 ((List.range 16).flatMap fun i => [Value.int .u8 (Lib.accLo i), Value.int .u8 (Lib.accHi i)]).toArray
  { w0 with heap := h2 }
theorem laid_met (os : Os) (args : Array Value) : laidMet Tryd.prog [("unicode/utf8.acceptRanges", Rows.laid_unicode_utf8_acceptRanges), ("unicode/utf8.first", Rows.laid_unicode_utf8_first)] ((laidWorld os).forCall (fun _ _ => 0) ⟨#[], args, []⟩).memory :=
  (LaidIn.of_run (l := [("unicode/utf8.acceptRanges", Rows.laid_unicode_utf8_acceptRanges), ("unicode/utf8.first", Rows.laid_unicode_utf8_first)]) [1, 0] 8 (by kernel_rfl) (by kernel_rfl) (by kernel_rfl) (by kernel_rfl)).met
theorem own : ownKnob Tryd.prog.godebug = none := by kernel_rfl
theorem laidOut : laidOutB Tryd.prog = true := by kernel_rfl

end Go.Proofs.YthknfclhkmehgaaDoor.Fn
