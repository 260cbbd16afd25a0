/-
  trie.path: the iterator over the nodes on the way of a digit string: its contract; trie.node, trie.Longest over it.
-/
import Derived.Test.YthknfclhkmehgaaDoorEBase
import Derived.Test.YthknfclhkmehgaaDoorEStr
import Derived.RangeFuncFrom
import Derived.RangeFuncBound
import Derived.RangeFuncBox
import Derived.RangeFuncLeaves
import Derived.Shelf.Abstract
import Derived.WalkKit
import Derived.OwnWalkIn
import Derived.TacticsInMore
import Derived.LoopNIn
import Derived.LoopIn
namespace Go.Proofs.YthknfclhkmehgaaDoor.Fn
open Go.RowKit Go.Shelf Go.Proofs.YthknfclhkmehgaaDoorW.PrintWords Go.Proofs.YthknfclhkmehgaaDoorW.PrintLast Go.Proofs.YthknfclhkmehgaaDoorW.PrintMore
set_option linter.unusedVariables false
set_option linter.unusedSimpArgs false

attribute [local go_sem] Oper.semAt_some

/-- What the iterator reads stands: what lay below n0 as in w0; the two boxes that it captured. -/
def Rd (w0 : World) (tb sb : Nat) (tv sv : Value) (W : World) : Prop := Below w0.heap.size w0 W ∧ W.cell? ⟨tb, 0, none⟩ = some tv ∧ W.cell? ⟨sb, 0, none⟩ = some sv
def RdK (w0 : World) (tb sb : Nat) (tv sv : Value) (W W' : World) : Prop := Rd w0 tb sb tv sv W → Rd w0 tb sb tv sv W'
theorem RdK.t {w0 : World} {tb sb : Nat} {tv sv : Value} {A B C : World} (h : RdK w0 tb sb tv sv A B) (k : RdK w0 tb sb tv sv B C) : RdK w0 tb sb tv sv A C := fun x => k (h x)

theorem Rd.drew {w0 : World} {tb sb : Nat} {tv sv : Value} {W : World} (h : Rd w0 tb sb tv sv W) : Rd w0 tb sb tv sv W.drew := ⟨below_drew h.1, h.2.1, h.2.2⟩

abbrev encW (x : Nat × Nat) : Array Value := #[.int .i64 (x.1 : Int), .int .i64 (x.2 : Int)]

/-- What is to know of the trie: its cells' numbers stay in the trie. -/
def Inn (T : Tr.Trie) : Prop := ∀ i d, i < T.length → d < 10 → 0 ≤ Tr.kid T i d ∧ Tr.kid T i d < T.length

theorem strByte (s : ByteArray) (i : Nat) (hi : i < s.size) : s.data.toList.drop i = s[i] :: s.data.toList.drop (i + 1) := by
  have h : i < s.data.toList.length := by simpa using hi
  rw [List.drop_eq_getElem_cons h]
  congr 1

theorem u8_wrap {x : Int} (h0 : 0 ≤ x) (h1 : x < 256) : IntKind.u8.wrap x = x := by
  unfold IntKind.wrap
  simp [IntKind.bits, IntKind.signed]
  omega
theorem bt_nat (s : ByteArray) (i : Int) (h0 : 0 ≤ i) (h1 : i < s.size) : bt s i = ((s[i.toNat]'(by omega)).toNat : Int) := by
  unfold bt
  simp [show i.toNat < s.size by omega]

/-- A pair whose node is one. -/
abbrev NodeAt (n : Nat) := {x : Nat × Nat // x.2 < n}

set_option maxRecDepth 100000 in
set_option maxHeartbeats 4000000 in
theorem path1_in (n : Nat) (hn : 1 ≤ n) (l tb sb : Nat) (w0 : World) (A0 : Option Addr) (c0 : Nat) (l0 : List S77) (s : ByteArray)
    (hr0 : Kd.C k77 w0 A0 l0.length l0) (hc0 : l0.length ≤ c0) (hin : Inn (tt l0)) (hne : 0 < l0.length) (hcap : l0.length ≤ 4096) (hsz : s.size ≤ 9223372036854775807) (hdig : Tr.Dig s.data.toList)
    (J Jx : List (NodeAt l0.length) → World → Prop) (hJd : ∀ pre W, J pre W → J pre W.drew)
    (hY : ∀ pre x W, J pre W → pre.length < s.size + 1 → YieldAt Fence.wide (n - 1) Tryd.prog l (encW x.1) W fun e W' =>
      (e = .returned (.bool true) ∧ J (pre ++ [x]) W' ∧ RdK w0 tb sb (.slice A0 l0.length c0) (.string s) W W') ∨ (e = .returned (.bool false) ∧ Jx (pre ++ [x]) W'))
    (W : World) (hW : Rd w0 tb sb (.slice A0 l0.length c0) (.string s) W) (h0 : J [] W) :
    CallsIn Fence.wide n Tryd.prog 61 #[.func (.yield l) #[] #[], .pointer (some ⟨sb, 0, none⟩), .pointer (some ⟨tb, 0, none⟩)] W fun e W' => (∃ v, e = .returned v) ∧
      ((∃ ys, ys.map Subtype.val = Tr.way (tt l0) 0 0 s.data.toList ∧ J ys W') ∨ (∃ pre, True ∧ Jx pre W')) := by
  have hu24 := Tryd.underlying32
  have hu71 := Tryd.underlying77
  have hu69 := Tryd.underlying75
  refine callsIn_of_wp Tryd.func61 rfl trivial ?_ rfl
  simp only [Tryd.ntmps61, List.size_toArray, List.length_cons, List.length_nil, Nat.reduceAdd, Nat.reduceSub, Array.replicate_succ, Array.replicate_zero, List.push_toArray, List.append_toArray, List.nil_append, List.cons_append]
  gi_wp2
  gi_loopw [4, 5] (fun x4 x5 wr => ∃ (a i : Int) (pre : List (NodeAt l0.length)), 0 ≤ i ∧ i ≤ s.size ∧ 0 ≤ a ∧ a < l0.length ∧ pre.length = i.toNat ∧ x4 = .int .i64 a ∧ x5 = .int .i64 i ∧ pre.map Subtype.val ++ Tr.way (tt l0) a.toNat i.toNat (s.data.toList.drop i.toNat) = Tr.way (tt l0) 0 0 s.data.toList ∧ J pre wr ∧ Rd w0 tb sb (.slice A0 l0.length c0) (.string s) wr)
    (fun _ x5 _ => s.size - (intOf x5).toNat)
  case atStart => exact ⟨0, 0, [], by omega, by omega, by omega, by omega, rfl, rfl, rfl, rfl, h0, hW⟩
  case round =>
    obtain ⟨a, i, pre, hi0, hi, ha0, ha, hpl, rfl, rfl, hpre, hJs, hnx⟩ := hrel
    obtain ⟨fn, tmps, assign, body, hy, hR⟩ := hY pre ⟨(i.toNat, a.toNat), by simp; omega⟩ wr hJs (by omega)
    dsimp only [encW] at hy
    rw [Int.toNat_of_nonneg hi0, Int.toNat_of_nonneg ha0] at hy
    gi_wp2
    refine hR.mono ?_
    rintro e W3 (⟨rfl, hJ3, hk3⟩ | ⟨rfl, hJx3⟩)
    · have hRd3 := hk3 hnx
      have htb := hRd3.2.1
      have hsb := hRd3.2.2
      by_cases hlt : i < s.size
      · have hC := Kd.C_below hr0 hRd3.1
        have hb := strByte s i.toNat (by omega)
        have hx6 := bt_at s i
        have hbd : Tr.IsDig s[i.toNat] := hdig _ (by simp [ByteArray.getElem_eq_getElem_data])
        have hbt := bt_nat s i hi0 hlt
        obtain ⟨ji, hji⟩ : ∃ j_ : Int, IntKind.u8.wrap (bt s i - 48) = j_ := ⟨_, rfl⟩
        have hjn : ji = (Tr.dgt s[i.toNat] : Int) := by
          rw [← hji, hbt]
          have h1 := hbd.1
          have h2 := hbd.2
          rw [u8_wrap (by omega) (by omega)]
          unfold Tr.dgt
          omega
        have hd10 : Tr.dgt s[i.toNat] < 10 := by
          have h2 := hbd.2
          unfold Tr.dgt
          omega
        obtain ⟨ad, rfl, hcell⟩ := kid_cell' hC a ji ha0 ha (by omega) (by omega)
        have hkid := hin a.toNat ji.toNat (by rw [tt_length]; omega) (by omega)
        rw [tt_length] at hkid
        have hjt := Aside0.mk (show ji.toNat = Tr.dgt s[i.toNat] by omega)
        generalize hK : Tr.kid (tt l0) a.toNat ji.toNat = K at hcell hkid
        have p1 : (0 ≤ i) = True := eq_true hi0
        have p2 : (i < s.size) = True := eq_true hlt
        have p3 : (0 ≤ a) = True := eq_true ha0
        have p4 : (a < l0.length) = True := eq_true ha
        have p5 : (0 ≤ ji) = True := eq_true (by omega)
        have p6 : (ji < 10) = True := eq_true (by omega)
        replace hb := Aside0.mk hb
        replace hkid := Aside0.mk hkid
        replace hK := Aside0.mk hK
        replace hpre := Aside0.mk hpre
        replace hpl := Aside0.mk hpl
        replace hC := Aside0.mk hC
        replace hnx := Aside0.mk hnx
        replace hRd3 := Aside0.mk hRd3
        clear hbt hjn hbd hd10
        have hway : Tr.way (tt l0) a.toNat i.toNat (s.data.toList.drop i.toNat) = (i.toNat, a.toNat) :: if K = 0 then [] else Tr.way (tt l0) K.toNat (i.toNat + 1) (s.data.toList.drop (i.toNat + 1)) := by
          rw [hb.out, Tr.way, ← hjt.out, hK.out]
        replace hway := Aside0.mk hway
        by_cases hk0 : K = 0
        · have hk0b : (K == 0) = true := beq_iff_eq.2 hk0
          gi_wp2
          gi_region
          gi_wp2
          refine bodyPost_ret (results_none rfl _ _ _) rfl ?_
          refine ⟨⟨_, rfl⟩, .inl ⟨_, ?_, hJd _ _ hJ3⟩⟩
          rw [List.map_append, ← hpre.out, hway.out, if_pos hk0]
          rfl
        · have hk0b : (K == 0) = false := beq_eq_false_iff_ne.2 hk0
          gi_wp2
          gi_region
          gi_wp2
          refine ⟨⟨K, i + 1, pre ++ [⟨(i.toNat, a.toNat), _⟩], by omega, by omega, hkid.out.1, by have := hkid.out.2; omega, ?_, rfl, rfl, ?_, hJd _ _ hJ3, hRd3.out.drew⟩, ?_⟩
          · rw [List.length_append, hpl.out]
            simp
            omega
          · rw [← hpre.out, hway.out, if_neg hk0, show (i + 1).toNat = i.toNat + 1 by omega, List.map_append, List.append_assoc]
            rfl
          · simp [intOf]
            omega
      · gi_wp2
        go_end0
        have hie : i.toNat = s.size := by omega
        refine ⟨⟨_, rfl⟩, .inl ⟨_, ?_, hJ3⟩⟩
        rw [List.map_append, ← hpre, hie, List.drop_of_length_le (by simp)]
        rfl
    · gi_wp2
      go_end0
      exact ⟨⟨_, rfl⟩, .inr ⟨_, trivial, hJx3⟩⟩

theorem below_grown {w W : World} (h : Below w.heap.size w W) : w.grownBy W none := grown_of_below h none

theorem path_stops_at (n : Nat) (hn : 1 ≤ n) (tb sb : Nat) (w0 : World) (A0 : Option Addr) (c0 : Nat) (l0 : List S77) (s : ByteArray)
    (hr0 : Kd.C k77 w0 A0 l0.length l0) (hc0 : l0.length ≤ c0) (hin : Inn (tt l0)) (hne : 0 < l0.length) (hcap : l0.length ≤ 4096) (hsz : s.size ≤ 9223372036854775807) (hdig : Tr.Dig s.data.toList)
    (w : World) (hw0 : w0.heap.size ≤ w.heap.size) (hw : Rd w0 tb sb (.slice A0 l0.length c0) (.string s) w) :
    SeqStopsK Fence.wide n Tryd.prog 61 #[.pointer (some ⟨sb, 0, none⟩), .pointer (some ⟨tb, 0, none⟩)] (fun x : NodeAt l0.length => encW x.1) (RdK w0 tb sb (.slice A0 l0.length c0) (.string s))
      (fun ys => ys.map Subtype.val = Tr.way (tt l0) 0 0 s.data.toList) (fun _ => True) (s.size + 1) w := fun l J Jx W hW hA _ hY h0 =>
  path1_in n hn l tb sb w0 A0 c0 l0 s hr0 hc0 hin hne hcap hsz hdig J Jx (fun pre W1 h => hA pre W1 _ none h (below_grown (below_drew (Below.refl _ _))) (fun r e => by cases e)) hY W
    ⟨hw.1.trans (hW.mono hw0), pw_cell_below hW hw.2.1, pw_cell_below hW hw.2.2⟩ h0

theorem path_stops (n : Nat) (hn : 1 ≤ n) (tb sb : Nat) (w0 : World) (A0 : Option Addr) (c0 : Nat) (l0 : List S77) (s : ByteArray)
    (hr0 : Kd.C k77 w0 A0 l0.length l0) (hc0 : l0.length ≤ c0) (hin : Inn (tt l0)) (hne : 0 < l0.length) (hcap : l0.length ≤ 4096) (hsz : s.size ≤ 9223372036854775807) (hdig : Tr.Dig s.data.toList)
    (w : World) (hw0 : w0.heap.size ≤ w.heap.size) (hw : Rd w0 tb sb (.slice A0 l0.length c0) (.string s) w) :
    SeqStopsK Fence.wide n Tryd.prog 61 #[.pointer (some ⟨sb, 0, none⟩), .pointer (some ⟨tb, 0, none⟩)] encW (RdK w0 tb sb (.slice A0 l0.length c0) (.string s))
      (fun ys => ys = Tr.way (tt l0) 0 0 s.data.toList) (fun _ => True) (s.size + 1) w := fun l J Jx W hW hA hAx hY h0 => by
  refine (path_stops_at n hn tb sb w0 A0 c0 l0 s hr0 hc0 hin hne hcap hsz hdig w hw0 hw l (fun pre W => J (pre.map Subtype.val) W) (fun pre W => Jx (pre.map Subtype.val) W) W hW (fun pre => hA _) (fun pre => hAx _) ?_ h0).mono ?_
  · intro pre x W1 h hl
    refine YieldAt.mono (hY (pre.map Subtype.val) x.1 W1 h (by simpa using hl)) ?_
    rintro e W2 (h | h)
    · exact .inl (by simpa using h)
    · exact .inr (by simpa using h)
  · rintro e W2 ⟨he, ⟨xs, h1, h2⟩ | ⟨pre, h1, h2⟩⟩
    · exact ⟨he, .inl ⟨_, h1, h2⟩⟩
    · exact ⟨he, .inr ⟨_, h1, h2⟩⟩

set_option maxHeartbeats 1000000 in
theorem path_in (n : Nat) (A0 : Option Addr) (len c0 : Nat) (s : ByteArray) (w : World) :
    CallsIn Fence.wide n Tryd.prog 45 #[.agg #[.slice A0 len c0], .string s] w fun e w' => e = .returned (.func (.func 61) #[] #[.pointer (some ⟨w.heap.size + 1, 0, none⟩), .pointer (some ⟨w.heap.size, 0, none⟩)]) ∧
      w' = (w.alloc (.cells #[.slice A0 len c0] 32)).alloc (.cells #[.string s] 9) := by
  have hu24 := Tryd.underlying32
  refine callsIn_of_wp Tryd.func45 rfl trivial ?_ rfl
  simp only [Tryd.ntmps45, List.size_toArray, List.length_cons, List.length_nil, Nat.reduceAdd, Nat.reduceSub, Array.replicate_succ, Array.replicate_zero, List.push_toArray, List.append_toArray, List.nil_append, List.cons_append]
  gi_wp2
  go_ret
  exact ⟨rfl, rfl⟩

end Go.Proofs.YthknfclhkmehgaaDoor.Fn
