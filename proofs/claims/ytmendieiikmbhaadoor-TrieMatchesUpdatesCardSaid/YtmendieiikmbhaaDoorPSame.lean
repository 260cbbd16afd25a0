/-
  PLAIN LAW: a trie is the same as itself, says the reference.
-/
import Derived.Test.YtmendieiikmbhaaDoorPTrie
import Derived.Test.YtmendieiikmbhaaDoorFn12
namespace Go.Proofs.YtmendieiikmbhaaDoor.Fn
open Go.RowKit Go.Proofs.YtmendieiikmbhaaDoorW.PrintWords Go.Proofs.YtmendieiikmbhaaDoorW.PrintLast Go.Proofs.YtmendieiikmbhaaDoorW.PrintMore
set_option linter.unusedVariables false
set_option linter.unusedSimpArgs false

theorem SameT_refl (x : Tl) (hl : x.length < 9223372036854775807) : Ev (fun k => crossbarref07_Same.f k x x) true := by
  have loop : ∀ (m i : Nat), x.length - i = m → i ≤ x.length → Ev (fun k => crossbarref07_Same.l0 k (i : Int) x x) true := by
    intro m
    induction m with
    | zero =>
      intro i hm hi
      refine ⟨1, fun k hk => ?_⟩
      obtain ⟨k, rfl⟩ : ∃ m, k = m + 1 := ⟨k - 1, by omega⟩
      dsimp only
      rw [crossbarref07_Same.l0, if_neg (by omega)]
    | succ m ih =>
      intro i hm hi
      obtain ⟨K, hK⟩ := ih (i + 1) (by omega) (by omega)
      refine ⟨K + 1, fun k hk => ?_⟩
      obtain ⟨k, rfl⟩ : ∃ m, k = m + 1 := ⟨k - 1, by omega⟩
      dsimp only
      rw [crossbarref07_Same.l0, if_pos (by omega), if_pos (by omega), if_pos (by omega), if_neg (by simp), w64s (by omega)]
      exact hK k (by omega)
  unfold crossbarref07_Same.f
  obtain ⟨K, hK⟩ := loop x.length 0 (by omega) (by omega)
  refine ⟨K, fun k hk => ?_⟩
  dsimp only
  rw [if_pos rfl]
  exact hK k hk

end Go.Proofs.YtmendieiikmbhaaDoor.Fn
