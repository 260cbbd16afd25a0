/-
  digits.Matches: the walk (slices.ContainsFunc and slices.IndexFunc with a function literal).
-/
import Derived.Test.YthknfclhkmehgaaDoorFn4
import Derived.Test.YthknfclhkmehgaaDoorEStr
namespace Go.Proofs.YthknfclhkmehgaaDoor.Fn
open Go.RowKit Go.Proofs.YthknfclhkmehgaaDoorW.PrintWords Go.Proofs.YthknfclhkmehgaaDoorW.PrintLast Go.Proofs.YthknfclhkmehgaaDoorW.PrintMore
set_option linter.unusedVariables false
set_option linter.unusedSimpArgs false

def matB (l : List ByteArray) (s : ByteArray) : Bool := l.any fun p => p.data.toList.isPrefixOf s.data.toList
def digits_Matches.f (l : List ByteArray) (s : ByteArray) : Option Bool := some (matB l s)

theorem has_is (s p : ByteArray) : strings_HasPrefix.f s p = some (p.data.toList.isPrefixOf s.data.toList) := by
  unfold strings_HasPrefix.f stringslite_HasPrefix.f
  have hl : ∀ b : ByteArray, b.data.toList.length = b.size := fun b => by rw [Array.length_toList]; rfl
  by_cases h : (s.size : Int) ≥ (p.size : Int)
  · rw [if_pos h, if_pos (by omega), if_pos (by omega), Option.bind_some, Int.toNat_natCast]
    congr 1
    rw [Lib.toList_data, Lib.toList_data, ByteArray.data_extract, Bool.eq_iff_iff, beq_iff_eq, List.isPrefixOf_iff_prefix, List.prefix_iff_eq_take, hl]
    have e : (s.data.extract 0 p.size).toList = s.data.toList.take p.size := by simp
    rw [e]
    exact eq_comm
  · rw [if_neg h, Option.bind_some]
    congr 1
    symm
    rw [Bool.eq_false_iff]
    intro hb
    have := (List.isPrefixOf_iff_prefix.1 hb).length_le
    rw [hl, hl] at this
    omega

set_option maxHeartbeats 4000000 in
set_option maxRecDepth 100000 in
theorem Mat1_in (b3 : Nat) (s p : ByteArray) (w : World) (h3 : w.heap[b3]? = some (.cells #[.string s] 9 (0, 0))) :
    Calls Tryd.prog 49 #[.string p, .pointer (some ⟨b3, 0, none⟩)] w fun e w' => e = .returned (.bool (p.data.toList.isPrefixOf s.data.toList)) ∧ Below w.heap.size w w' := by
  have e3 : w.cell? ⟨b3, 0, none⟩ = some (.string s) := (blk_cell h3 0).trans rfl
  obtain ⟨b, hb⟩ : ∃ b, p.data.toList.isPrefixOf s.data.toList = b := ⟨_, rfl⟩
  have hh := Aside0.mk ((has_is s p).trans (congrArg some hb))
  rw [hb]
  clear hb h3
  go_enter Tryd.func49, Tryd.ntmps49
  go_wp2_with (first | (go_at_call 50; refine (strings_HasPrefix.calls s p b _ hh.out).mono ?_; rintro e W1 ⟨rfl, hB1⟩))
  go_ret
  exact ⟨rfl, hB1.below⟩

theorem any_drop {l : List ByteArray} {s : ByteArray} {i : Nat} (h : matB (l.drop i) s = matB l s) (hi : i < l.length) (hn : (l.getD i ⟨#[]⟩).data.toList.isPrefixOf s.data.toList = false) : matB (l.drop (i + 1)) s = matB l s := by
  rw [← h]
  unfold matB at *
  rw [List.drop_eq_getElem_cons hi, List.any_cons]
  rw [List.getD_eq_getElem?_getD, List.getElem?_eq_getElem hi] at hn
  rw [show (l[i].data.toList.isPrefixOf s.data.toList) = false from hn, Bool.false_or]
theorem any_here {l : List ByteArray} {s : ByteArray} {i : Nat} (hi : i < l.length) (hn : (l.getD i ⟨#[]⟩).data.toList.isPrefixOf s.data.toList = true) : matB l s = true := by
  unfold matB
  rw [List.any_eq_true]
  refine ⟨l[i], List.getElem_mem hi, ?_⟩
  rw [List.getD_eq_getElem?_getD, List.getElem?_eq_getElem hi] at hn
  exact hn
theorem at_str {w : World} {A : Option Addr} {n : Nat} {xs : List ByteArray} (h : Kd.C Kd.string w A n xs) (i : Int) (h0 : 0 ≤ i) (h1 : i < n) : ∃ ad, A = some ad ∧ w.cell? (ad.add i.toNat) = some (.string (xs.getD i.toNat ⟨#[]⟩)) := by
  obtain ⟨ad, c, e, hl, hK, hc⟩ := Kd.C_get h ⟨#[]⟩ i h0 h1
  obtain rfl : c = [.string (xs.getD i.toNat ⟨#[]⟩)] := hK
  refine ⟨ad, e, ?_⟩
  have := hc 0 _ rfl
  rw [show i.toNat * Kd.string.sz + 0 = i.toNat from by show i.toNat * 1 + 0 = i.toNat; omega] at this
  exact this

set_option maxHeartbeats 4000000 in
set_option maxRecDepth 100000 in
theorem Idx_in (A0 : Option Addr) (c0 b3 : Nat) (l0 : List ByteArray) (s : ByteArray) (w : World) (hr0 : Kd.C Kd.string w A0 l0.length l0) (hc0 : l0.length ≤ c0) (h3 : w.heap[b3]? = some (.cells #[.string s] 9 (0, 0))) :
    Calls Tryd.prog 64 #[.slice A0 l0.length c0, .func (Fn.func 49) #[] #[.pointer (some ⟨b3, 0, none⟩)]] w fun e w' => ∃ x : Int, e = .returned (.int .i64 x) ∧ decide (x ≥ 0) = matB l0 s ∧ Below w.heap.size w w' := by
  have hlen := hr0.2.1
  have HR0 := Aside0.mk hr0
  have HC0 := Aside0.mk hc0
  replace h3 := Aside0.mk h3
  replace hlen := Aside0.mk hlen
  clear hr0 hc0
  go_enter Tryd.func64, Tryd.ntmps64
  go_wp2
  go_loopg [8] l0.length (fun kq v8 w' => ∃ (x : Int), v8 = .int .i64 x ∧ Aside0 (0 ≤ x ∧ x + kq = l0.length) ∧ Aside0 (matB (l0.drop x.toNat) s = matB l0 s) ∧ Aside0 (Below w.heap.size w w'))
  case atStart => exact ⟨0, rfl, ⟨by omega⟩, ⟨rfl⟩, ⟨Below.refl _ _⟩⟩
  case round =>
    obtain ⟨x, rfl, hx, hM, HB⟩ := hrel
    cases gk with
    | zero =>
      have c3b0 : decide (x < (l0.length : Int)) = false := decide_eq_false (by have := hx.out; omega)
      have hr := hM.out
      rw [List.drop_eq_nil_of_le (by have := hx.out; omega)] at hr
      go_wp2
      go_ret
      exact ⟨_, rfl, hr, HB.out⟩
    | succ k1 =>
      have c3 : x < (l0.length : Int) := by have := hx.out; omega
      have c3b0 : decide (x < (l0.length : Int)) = true := decide_eq_true c3
      have p228 : 0 ≤ x := hx.out.1
      obtain ⟨ad, ead, hx0⟩ := at_str HR0.out x p228 c3
      cases ead
      replace hx0 := (HB.out.cell (World.block_lt_of_cell? w _ hx0)).trans hx0
      have h3' := Aside0.mk (blk_below h3.out HB.out)
      obtain ⟨p, hp⟩ : ∃ p, p = l0.getD x.toNat ⟨#[]⟩ := ⟨_, rfl⟩
      rw [← hp] at hx0
      have hw : wrap64 (x + 1) = x + 1 := by have := hlen.out; unfold wrap64; omega
      have hil : x.toNat < l0.length := by omega
      replace hil := Aside0.mk hil
      replace hp := Aside0.mk hp
      replace p228 := eq_true p228
      replace c3 := eq_true c3
      replace hw := Aside0.mk hw
      cases hb : p.data.toList.isPrefixOf s.data.toList with
      | true =>
        replace hb := Aside0.mk hb
        go_wp2_with (first | (go_at_call 49; refine (Mat1_in b3 s p _ h3'.out).mono ?_; rintro e W1 ⟨rfl, hB1⟩; rw [hb.out]; replace hB1 := Aside0.mk hB1))
        go_ret
        refine ⟨_, rfl, ?_, below_step HB.out hB1.out⟩
        rw [any_here hil.out (by rw [← hp.out]; exact hb.out)]
        exact decide_eq_true (by have := hx.out; omega)
      | false =>
        replace hb := Aside0.mk hb
        go_wp2_with (first | (go_at_call 49; refine (Mat1_in b3 s p _ h3'.out).mono ?_; rintro e W1 ⟨rfl, hB1⟩; rw [hb.out]; replace hB1 := Aside0.mk hB1))
        go_roundg k1
        case measure => omega
        case rel =>
          refine ⟨x + 1, by rw [hw.out], ⟨by have := hx.out; omega⟩, ⟨?_⟩, ⟨below_step HB.out hB1.out⟩⟩
          rw [show (x + 1).toNat = x.toNat + 1 by have := hx.out; omega]
          exact any_drop hM.out hil.out (by rw [← hp.out]; exact hb.out)

set_option maxHeartbeats 4000000 in
set_option maxRecDepth 100000 in
theorem Cont_in (A0 : Option Addr) (c0 b3 : Nat) (l0 : List ByteArray) (s : ByteArray) (w : World) (hr0 : Kd.C Kd.string w A0 l0.length l0) (hc0 : l0.length ≤ c0) (h3 : w.heap[b3]? = some (.cells #[.string s] 9 (0, 0))) :
    Calls Tryd.prog 48 #[.slice A0 l0.length c0, .func (Fn.func 49) #[] #[.pointer (some ⟨b3, 0, none⟩)]] w fun e w' => e = .returned (.bool (matB l0 s)) ∧ Below w.heap.size w w' := by
  have HR0 := Aside0.mk hr0
  have HC0 := Aside0.mk hc0
  replace h3 := Aside0.mk h3
  clear hr0 hc0
  go_enter Tryd.func48, Tryd.ntmps48
  go_wp2_with (first | (go_at_call 64; refine (Idx_in A0 c0 b3 l0 s _ HR0.out HC0.out h3.out).mono ?_; rintro e W1 ⟨x, rfl, hx, hB1⟩; replace hB1 := Aside0.mk hB1; replace hx := Aside0.mk hx))
  go_ret
  refine ⟨?_, hB1.out⟩
  rw [← hx.out]
  first | rfl | (congr 3)

set_option maxHeartbeats 4000000 in
set_option maxRecDepth 100000 in
theorem digits_Matches.calls (A0 : Option Addr) (c0 : Nat) (l0 : List ByteArray) (a1 : ByteArray) (r : Bool) (w : World) (hr0 : Kd.C Kd.string w A0 l0.length l0) (hc0 : l0.length ≤ c0) (h : digits_Matches.f l0 a1 = some r) :
    Calls Tryd.prog 21 #[.slice A0 l0.length c0, .string a1] w fun e w' => e = .returned (.bool r) ∧ Below w.heap.size w w' := by
  obtain rfl := Option.some.inj h
  have HR0 := Aside0.mk hr0
  have HC0 := Aside0.mk hc0
  clear hr0 hc0
  have hmf : ∀ (fn : Fn) (first cap : Array Value) (w : World), (Instr.makeFunc fn first cap).run Tryd.prog w = .ok (.func fn first cap) w := fun _ _ _ _ => rfl
  go_enter Tryd.func21, Tryd.ntmps21
  go_upto_region 1 with (fail)
  obtain ⟨W0, hW0⟩ : ∃ W0, w.alloc (.cells #[.string a1] 9) = W0 := ⟨_, rfl⟩
  rw [hW0]
  have h3 : W0.heap[w.heap.size]? = some (.cells #[.string a1] 9 (0, 0)) := by rw [← hW0]; exact blk_new _ _
  have hb0 : Below w.heap.size w W0 := by rw [← hW0]; exact below_alloc (Below.refl _ _) _
  replace h3 := Aside0.mk h3
  replace hb0 := Aside0.mk hb0
  clear hW0
  go_wp2_with (first | (go_at_call 48; refine (Cont_in A0 c0 _ l0 a1 _ (Kd.C_below HR0.out hb0.out) HC0.out h3.out).mono ?_; rintro e W1 ⟨rfl, hB1⟩; replace hB1 := Aside0.mk hB1))
  go_ret
  exact ⟨rfl, below_step hb0.out hB1.out⟩

end Go.Proofs.YthknfclhkmehgaaDoor.Fn
