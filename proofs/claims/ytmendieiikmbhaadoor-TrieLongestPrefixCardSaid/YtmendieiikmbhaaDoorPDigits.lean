/-
  PLAIN LAW: the reference's digit test.
-/
import Derived.Test.YtmendieiikmbhaaDoorPTrie
import Derived.Test.YtmendieiikmbhaaDoorFn6x1
namespace Go.Proofs.YtmendieiikmbhaaDoor.Fn
open Go.RowKit Go.Proofs.YtmendieiikmbhaaDoorW.PrintWords Go.Proofs.YtmendieiikmbhaaDoorW.PrintLast Go.Proofs.YtmendieiikmbhaaDoorW.PrintMore
set_option linter.unusedVariables false
set_option linter.unusedSimpArgs false

theorem bt_at (s : ByteArray) (i : Nat) (hi : i < s.size) : bt s (i : Int) = ((s[i]).toNat : Int) := by
  unfold bt
  rw [Int.toNat_natCast, dif_pos hi]
theorem dig_iff (b : UInt8) : (decide (48 ≤ b.toNat) && decide (b.toNat ≤ 57)) = true ↔ Tr.IsDig b := by
  simp [Tr.IsDig]
theorem digits_ref_loop (s : ByteArray) (hs : s.size < 9223372036854775807) : ∀ (m i : Nat), s.size - i = m → i ≤ s.size →
    Ev (fun k => crossbarref07_Digits.l0 k s (i : Int)) ((s.data.toList.drop i).all fun b => decide (48 ≤ b.toNat) && decide (b.toNat ≤ 57)) := by
  intro m
  induction m with
  | zero =>
    intro i hm hi
    obtain rfl : i = s.size := by omega
    rw [List.drop_eq_nil_of_le (by rw [size_len]; omega)]
    refine Ev.step (fun k => crossbarref07_Digits.l0.eq_2 _ _ k) ?_
    exact Ev.if_neg (by omega) (Ev.now _)
  | succ m ih =>
    intro i hm hi
    have hil : i < s.size := by omega
    rw [strByte s i hil, List.all_cons]
    refine Ev.step (fun k => crossbarref07_Digits.l0.eq_2 _ _ k) ?_
    refine Ev.if_pos (by omega) ?_
    refine Ev.if_pos (by omega) ?_
    rw [bt_at s i hil]
    by_cases h1 : (s[i].toNat : Int) < 48
    · rw [decide_eq_false (by omega : ¬ 48 ≤ s[i].toNat), Bool.false_and, Bool.false_and]
      exact Ev.if_pos h1 (Ev.now _)
    refine Ev.if_neg h1 ?_
    rw [decide_eq_true (by omega : 48 ≤ s[i].toNat), Bool.true_and]
    by_cases h2 : (s[i].toNat : Int) > 57
    · rw [decide_eq_false (by omega : ¬ s[i].toNat ≤ 57), Bool.false_and]
      exact Ev.if_pos h2 (Ev.now _)
    refine Ev.if_neg h2 ?_
    rw [decide_eq_true (by omega : s[i].toNat ≤ 57), Bool.true_and, w64s (by omega)]
    exact ih (i + 1) (by omega) (by omega)
theorem Digits_ref (s : ByteArray) (hs : s.size < 9223372036854775807) : Ev (fun k => crossbarref07_Digits.f k s) (digB s) := by
  have := digits_ref_loop s hs s.size 0 (by omega) (by omega)
  exact this

end Go.Proofs.YtmendieiikmbhaaDoor.Fn
