/-
  The laws' arguments, opened: a half call, an event.
-/
import Derived.Test.YthknfclhkmehgaaDoorEOpenV
namespace Go.Proofs.YthknfclhkmehgaaDoor.Fn
open Go.RowKit Go.Proofs.YthknfclhkmehgaaDoorW.PrintWords Go.Proofs.YthknfclhkmehgaaDoorW.PrintLast Go.Proofs.YthknfclhkmehgaaDoorW.PrintMore
open Go.ChangeShapes Go.WideShapes Go.Deep
set_option linter.unusedVariables false
set_option linter.unusedSimpArgs false

theorem opens_orig : Opens (Kd.pair (Kd.int .i64) Kd.string) Tryd.prog 45 :=
  opens_pair Tryd.underlying45 (opens_int Tryd.underlying3 (by kernel_rfl)) (opens_string Tryd.underlying9 (by kernel_rfl)) rfl rfl (by kernel_rfl)
theorem arr_of {cs : Array Value} {l : List Value} (h : cs.toList = l) : cs = l.toArray := by
  rw [← h]
section
variable {H : Type} {enc : TypeId × Value → H} {W : World} {base b0 : Nat} {held : Bool} {r : Reach} {v : Value} {d : DataW H} {p : List MemPlace}
set_option maxRecDepth 100000 in
theorem open_orig (hv : Value.okWide Tryd.prog W r b0 45 v) (h : DataW.Trod enc Tryd.prog W base (fun _ => true) held 45 v d p) :
    ∃ (s : Int) (dd : ByteArray), v = .agg #[.int .i64 s, .string dd] := by
  obtain ⟨cs, rfl, hsz⟩ := okWide_struct Tryd.underlying45 hv
  obtain ⟨fuel, hf⟩ := h
  obtain ⟨⟨s, dd⟩, hy⟩ := opens_orig.2 _ _ _ _ _ _ _ _ _ hf
  obtain ⟨c1, c2, e, h1, h2⟩ := hy
  have h1' : c1 = [.int .i64 s] := h1
  have h2' : c2 = [.string dd] := h2
  subst h1' h2'
  exact ⟨s, dd, congrArg Value.agg (arr_of e)⟩
set_option maxRecDepth 100000 in
theorem open_event (hv : Value.okWide Tryd.prog W r b0 47 v) (h : DataW.Trod enc Tryd.prog W base (fun _ => true) held 47 v d p) :
    ∃ (a b c : Int), v = .agg #[.int .i64 a, .int .i64 b, .int .u8 c] := by
  obtain ⟨cs, rfl, hsz⟩ := okWide_struct Tryd.underlying47 hv
  obtain ⟨fuel, hf⟩ := h
  obtain ⟨⟨x, y, z⟩, hy⟩ := opens_event.2 _ _ _ _ _ _ _ _ _ hf
  exact ⟨x, y, z, congrArg Value.agg (arr_of (k47_open hy))⟩
end

end Go.Proofs.YthknfclhkmehgaaDoor.Fn
