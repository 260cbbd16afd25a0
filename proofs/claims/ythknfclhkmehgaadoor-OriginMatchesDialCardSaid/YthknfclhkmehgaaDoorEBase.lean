/-
  A trie in memory: its nodes as the plain law tells them; the cells of a child and of a value.
-/
import Derived.Test.YthknfclhkmehgaaDoorFn8
import Derived.Test.YthknfclhkmehgaaDoorTrEntries
namespace Go.Proofs.YthknfclhkmehgaaDoor.Fn
open Go.RowKit Go.Proofs.YthknfclhkmehgaaDoorW.PrintWords Go.Proofs.YthknfclhkmehgaaDoorW.PrintLast Go.Proofs.YthknfclhkmehgaaDoorW.PrintMore
set_option linter.unusedVariables false
set_option linter.unusedSimpArgs false

/-- A node as the plain law has it. -/
def tn (x : S77) : Tr.TNode := ⟨[x.f0.f0, x.f0.f1, x.f0.f2, x.f0.f3, x.f0.f4, x.f0.f5, x.f0.f6, x.f0.f7, x.f0.f8, x.f0.f9], x.f1⟩
def tt (l : List S77) : Tr.Trie := l.map tn

theorem tt_length (l : List S77) : (tt l).length = l.length := by simp [tt]
theorem tt_ten (l : List S77) : ∀ x ∈ tt l, x.kids.length = 10 := by
  intro x hx
  obtain ⟨y, _, rfl⟩ := List.mem_map.1 hx
  rfl
theorem tn_nul : tn z77 = Tr.nul := rfl
theorem tt_getD (l : List S77) (i : Nat) : (tt l).getD i Tr.nul = tn (l.getD i z77) := by
  simp only [tt, List.getD_eq_getElem?_getD, List.getElem?_map]
  cases l[i]? <;> rfl

theorem kid_at (l : List S77) (i d : Nat) (hd : d < 10) : Tr.kid (tt l) i d = at75 (rd_T77 l (i : Int)).f0 (d : Int) := by
  unfold Tr.kid
  rw [tt_getD]
  unfold rd_T77 at75 tn
  simp only [Int.toNat_natCast]
  match d, hd with
  | 0, _ => rfl
  | 1, _ => rfl
  | 2, _ => rfl
  | 3, _ => rfl
  | 4, _ => rfl
  | 5, _ => rfl
  | 6, _ => rfl
  | 7, _ => rfl
  | 8, _ => rfl
  | 9, _ => rfl
theorem val_at (l : List S77) (i : Nat) : Tr.val (tt l) i = (rd_T77 l (i : Int)).f1 := by
  unfold Tr.val
  rw [tt_getD]
  rfl

theorem kid_cell {w : World} {A : Option Addr} {n : Nat} {l : List S77} (h : Kd.C k77 w A n l) (i d : Nat) (hi : i < n) (hd : d < 10) :
    ∃ ad, A = some ad ∧ w.cell? ((ad.add (i * 11)).add d) = some (.int .i64 (Tr.kid (tt l) i d)) := by
  obtain ⟨ad, e, c0, c1, c2, c3, c4, c5, c6, c7, c8, c9, _⟩ := at_T77 h (i : Int) (by omega) (by omega)
  refine ⟨ad, e, ?_⟩
  rw [kid_at l i d hd]
  have := cell_at75 (s := (rd_T77 l (i : Int)).f0) (j := (d : Int)) (by omega) (by omega) c0 c1 c2 c3 c4 c5 c6 c7 c8 c9
  rwa [Int.toNat_natCast, Int.toNat_natCast] at this
theorem val_cell {w : World} {A : Option Addr} {n : Nat} {l : List S77} (h : Kd.C k77 w A n l) (i : Nat) (hi : i < n) :
    ∃ ad, A = some ad ∧ w.cell? ⟨(ad.add (i * 11)).block, (ad.add (i * 11)).off + 10, none⟩ = some (.int .i64 (Tr.val (tt l) i)) := by
  obtain ⟨ad, e, _, _, _, _, _, _, _, _, _, _, c⟩ := at_T77 h (i : Int) (by omega) (by omega)
  refine ⟨ad, e, ?_⟩
  rw [val_at]
  rwa [Int.toNat_natCast] at c

theorem kid_cell' {w : World} {A : Option Addr} {n : Nat} {l : List S77} (h : Kd.C k77 w A n l) (x j : Int) (h0 : 0 ≤ x) (h1 : x < n) (h2 : 0 ≤ j) (h3 : j < 10) :
    ∃ ad, A = some ad ∧ w.cell? ((ad.add (x.toNat * 11)).add j.toNat) = some (.int .i64 (Tr.kid (tt l) x.toNat j.toNat)) :=
  kid_cell h x.toNat j.toNat (by omega) (by omega)

end Go.Proofs.YthknfclhkmehgaaDoor.Fn
