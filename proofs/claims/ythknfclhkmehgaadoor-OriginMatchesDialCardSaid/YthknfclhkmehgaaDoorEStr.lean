/-
  trie.digits and dialplan.numeric: is a string made of digits alone (strings.Trim by the shelf's contract).
-/
import Derived.Test.YthknfclhkmehgaaDoorEShp
import Derived.Test.YthknfclhkmehgaaDoorFn0
import Derived.Test.YthknfclhkmehgaaDoorTrEntries
namespace Go.Proofs.YthknfclhkmehgaaDoor.Fn
open Go.RowKit Go.Shelf Go.Lib Go.Proofs.YthknfclhkmehgaaDoorW.PrintWords Go.Proofs.YthknfclhkmehgaaDoorW.PrintLast Go.Proofs.YthknfclhkmehgaaDoorW.PrintMore
set_option linter.unusedVariables false
set_option linter.unusedSimpArgs false

/-- Digits alone. -/
def digB (s : ByteArray) : Bool := s.data.toList.all fun b => decide (48 ≤ b.toNat) && decide (b.toNat ≤ 57)
theorem digB_iff (s : ByteArray) : digB s = true ↔ Tr.Dig s.data.toList := by
  unfold digB Tr.Dig Tr.IsDig
  simp only [List.all_eq_true, Bool.and_eq_true, decide_eq_true_eq]

theorem dropWhile_all {α : Type} (p : α → Bool) : ∀ l : List α, l.all p = true → l.dropWhile p = []
  | [], _ => rfl
  | a :: l, h => by
    rw [List.all_cons, Bool.and_eq_true] at h
    rw [List.dropWhile_cons, if_pos h.1]
    exact dropWhile_all p l h.2
theorem dropWhile_nil {α : Type} (p : α → Bool) : ∀ l : List α, l.dropWhile p = [] → l.all p = true
  | [], _ => rfl
  | a :: l, h => by
    rw [List.dropWhile_cons] at h
    split at h
    · rename_i ha
      rw [List.all_cons, ha, dropWhile_nil p l h]
      rfl
    · cases h
theorem dropWhile_nil_iff {α : Type} (p : α → Bool) (l : List α) : l.dropWhile p = [] ↔ ∀ x ∈ l, p x = true :=
  ⟨fun h => List.all_eq_true.1 (dropWhile_nil p l h), fun h => dropWhile_all p l (List.all_eq_true.2 h)⟩
theorem dropWhile_head {α : Type} (p : α → Bool) : ∀ (l : List α) (a : α) (m : List α), l.dropWhile p = a :: m → p a = false
  | [], _, _, h => by cases h
  | b :: l, a, m, h => by
    rw [List.dropWhile_cons] at h
    split at h
    · exact dropWhile_head p l a m h
    · rename_i hb
      cases h
      simpa using hb
theorem dropWhile_mem {α : Type} (p : α → Bool) : ∀ (l : List α) (x : α), x ∈ l.dropWhile p → x ∈ l
  | [], _, h => h
  | b :: l, x, h => by
    rw [List.dropWhile_cons] at h
    split at h
    · exact List.mem_cons_of_mem _ (dropWhile_mem p l x h)
    · exact h

def cutset : List UInt8 := [48, 49, 50, 51, 52, 53, 54, 55, 56, 57]
theorem cutset_iff (b : UInt8) : cutset.contains b = (decide (48 ≤ b.toNat) && decide (b.toNat ≤ 57)) := by
  rw [Bool.eq_iff_iff]
  simp only [cutset, List.contains_cons, List.contains_nil, Bool.or_false, Bool.or_eq_true, beq_iff_eq, Bool.and_eq_true, decide_eq_true_eq, UInt8.toNat_inj.symm]
  constructor
  · rintro (h | h | h | h | h | h | h | h | h | h) <;> (rw [h]; decide)
  · intro h
    have : b.toNat = 48 ∨ b.toNat = 49 ∨ b.toNat = 50 ∨ b.toNat = 51 ∨ b.toNat = 52 ∨ b.toNat = 53 ∨ b.toNat = 54 ∨ b.toNat = 55 ∨ b.toNat = 56 ∨ b.toNat = 57 := by omega
    simpa using this

theorem trim_nil (p : UInt8 → Bool) (l : List UInt8) : ((l.reverse.dropWhile p).reverse).dropWhile p = [] ↔ ∀ x ∈ l, p x = true := by
  rw [dropWhile_nil_iff]
  constructor
  · intro h
    cases hd : l.reverse.dropWhile p with
    | nil =>
      rw [dropWhile_nil_iff] at hd
      exact fun x hx => hd x (List.mem_reverse.2 hx)
    | cons a m =>
      have h1 := dropWhile_head p _ _ _ hd
      have h2 := h a (by rw [hd]; simp)
      rw [h1] at h2
      cases h2
  · intro h x hx
    exact h x (List.mem_reverse.1 (dropWhile_mem p _ x (List.mem_reverse.1 hx)))
theorem trim_empty (l : List UInt8) : Lib.trimS l cutset = [] ↔ (l.all fun b => decide (48 ≤ b.toNat) && decide (b.toNat ≤ 57)) = true := by
  unfold Lib.trimS Lib.trimLeftS Lib.trimRightS
  rw [List.all_eq_true, trim_nil]
  simp only [cutset_iff]

theorem toList_isEmpty (l : List UInt8) : (⟨l.toArray⟩ : ByteArray).toList.isEmpty = decide (l = []) := by
  cases l with
  | nil =>
    rw [Lib.toList_data]
    rfl
  | cons a l =>
    rw [decide_eq_false (by simp)]
    rw [Bool.eq_false_iff]
    intro h
    have : (⟨(a :: l).toArray⟩ : ByteArray).data.toList = [] := by
      rw [← Lib.toList_data, List.isEmpty_iff.1 h]
    cases this

/-- The one walk, at either function. -/
def trie_digits.f (s : ByteArray) : Option Bool := if s.size ≤ 9223372036854775807 then some (digB s) else none
def dialplan_numeric.f (s : ByteArray) : Option Bool := if s.size ≤ 9223372036854775807 then some (digB s) else none

set_option maxHeartbeats 1000000 in
theorem trie_digits.calls (a0 : ByteArray) (r : Bool) (w : World) (h : trie_digits.f a0 = some r) :
    Calls Tryd.prog 44 #[.string a0] w fun e w' => e = .returned (.bool r) ∧ Below w.heap.size w w' := by
  unfold trie_digits.f at h
  split at h
  case isFalse => cases h
  case isTrue hs =>
  have hr : digB a0 = r := Option.some.inj h
  have hcon := Any.strings_Trim_laid Tryd.lays160 (by kernel_rfl) a0 ⟨#[48, 49, 50, 51, 52, 53, 54, 55, 56, 57]⟩ w hs (by decide) (ascii_of_all (by decide))
  change Calls Tryd.prog 60 _ _ (fun e w' => e = .returned (.string ⟨(Lib.trimS a0.data.toList cutset).toArray⟩) ∧ Below w.heap.size w w') at hcon
  have he := toList_isEmpty (Lib.trimS a0.data.toList cutset)
  have ht := trim_empty a0.data.toList
  generalize (Lib.trimS a0.data.toList cutset) = q at hcon he ht
  generalize (⟨q.toArray⟩ : ByteArray) = v at hcon he
  have hv : v.toList.isEmpty = r := by
    rw [he, ← hr, Bool.eq_iff_iff, decide_eq_true_eq, ht]
    rfl
  clear he ht hr h
  go_enter Tryd.func44, Tryd.ntmps44
  go_wp2_with (go_at_call 60; refine hcon.mono ?_; rintro e w' ⟨rfl, hB⟩)
  all_goals go_ret
  all_goals exact ⟨by first | rfl | (rw [← hv]; rfl), hB⟩

set_option maxHeartbeats 1000000 in
theorem dialplan_numeric.calls (a0 : ByteArray) (r : Bool) (w : World) (h : dialplan_numeric.f a0 = some r) :
    Calls Tryd.prog 38 #[.string a0] w fun e w' => e = .returned (.bool r) ∧ Below w.heap.size w w' := by
  unfold dialplan_numeric.f at h
  split at h
  case isFalse => cases h
  case isTrue hs =>
  have hr : digB a0 = r := Option.some.inj h
  have hcon := Any.strings_Trim_laid Tryd.lays160 (by kernel_rfl) a0 ⟨#[48, 49, 50, 51, 52, 53, 54, 55, 56, 57]⟩ w hs (by decide) (ascii_of_all (by decide))
  change Calls Tryd.prog 60 _ _ (fun e w' => e = .returned (.string ⟨(Lib.trimS a0.data.toList cutset).toArray⟩) ∧ Below w.heap.size w w') at hcon
  have he := toList_isEmpty (Lib.trimS a0.data.toList cutset)
  have ht := trim_empty a0.data.toList
  generalize (Lib.trimS a0.data.toList cutset) = q at hcon he ht
  generalize (⟨q.toArray⟩ : ByteArray) = v at hcon he
  have hv : v.toList.isEmpty = r := by
    rw [he, ← hr, Bool.eq_iff_iff, decide_eq_true_eq, ht]
    rfl
  clear he ht hr h
  go_enter Tryd.func38, Tryd.ntmps38
  go_wp2_with (go_at_call 60; refine hcon.mono ?_; rintro e w' ⟨rfl, hB⟩)
  all_goals go_ret
  all_goals exact ⟨by first | rfl | (rw [← hv]; rfl), hB⟩

end Go.Proofs.YthknfclhkmehgaaDoor.Fn
