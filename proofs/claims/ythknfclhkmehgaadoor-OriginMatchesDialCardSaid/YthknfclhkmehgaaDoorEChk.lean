/-
  dialplan.Check: the walk (a map of the prefixes seen; the rules by value).
-/
import Derived.Test.YthknfclhkmehgaaDoorEStr
import Derived.Maps.OwnSet
import Derived.Maps.Views
namespace Go.Proofs.YthknfclhkmehgaaDoor.Fn
open Go.RowKit Go.Maps Go.Proofs.YthknfclhkmehgaaDoorW.PrintWords Go.Proofs.YthknfclhkmehgaaDoorW.PrintLast Go.Proofs.YthknfclhkmehgaaDoorW.PrintMore
set_option linter.unusedVariables false
set_option linter.unusedSimpArgs false

abbrev Rl := List S35
def hasS (seen : List ByteArray) (s : ByteArray) : Bool := seen.any fun x => x.data.toList == s.data.toList
def badR (r : S35) : Bool := decide ((r.f0.size : Int) < 1) || (decide (15 < (r.f0.size : Int)) || (!digB r.f0 || (decide (r.f3 < 1) || (decide (4 < r.f3) || (decide (r.f1 < (r.f0.size : Int)) || (decide (r.f2 < r.f1) || decide (20 < r.f2)))))))
def chkL : Rl → List ByteArray → Int
  | [], _ => 0
  | r :: rs, seen => if badR r = true ∨ hasS seen r.f0 = true then 80 else chkL rs (r.f0 :: seen)
def chkR (l : Rl) : Int := if (l.length : Int) > 64 then 2 else chkL l []
def dialplan_Check.f (l0 : Rl) : Option Int := some (chkR l0)

/-! ### the map of what was seen -/
theorem law9 : Keyed Tryd.prog 9 := string_keyed Tryd.underlying9
def SetM (W : World) (b : Nat) (seen : List ByteArray) : Prop := ∃ D : DataW Unit, W.ownsMap Tryd.prog 9 (plainElem Tryd.prog 4) b seen.length D ∧ Maps.IsMap D ∧ ∀ s : ByteArray, D.atKey (.string s.data.toList) (.lit (.bool false)) = .lit (.bool (hasS seen s))
theorem zeroB (w : World) : (zeroValue 4).run Tryd.prog w = .ok (.bool false) w := by kernel_rfl
theorem SetM_new (W : World) : SetM (W.alloc (.map #[] 0)) W.heap.size [] := by
  refine ⟨.map [], World.ownsMap_made _ _ _ _, Maps.isMap_empty, fun s => ?_⟩
  exact Maps.atKey_of_not_has rfl _
theorem SetM_kept {W W' : World} {b : Nat} {seen : List ByteArray} {row : Option Nat} (h : SetM W b seen) (hg : W.grownBy W' row) (hne : some b ≠ row) : SetM W' b seen := by
  obtain ⟨D, h1, h2, h3⟩ := h
  exact ⟨D, h1.kept hg hne, h2, h3⟩
theorem SetM_below {W W' : World} {b : Nat} {seen : List ByteArray} (h : SetM W b seen) (hb : Below W.heap.size W W') : SetM W' b seen := SetM_kept h (grown_of_below hb none) (by simp)
set_option maxRecDepth 100000 in
theorem SetM_look {W : World} {b : Nat} {seen : List ByteArray} (h : SetM W b seen) (s : ByteArray) (hs : s.size ≤ maxLen) :
    (Instr.lookup 104 (.map (some b)) (.string s) false).run Tryd.prog W = .ok (.bool (hasS seen s)) W := by
  obtain ⟨D, h1, h2, h3⟩ := h
  obtain ⟨v, ps, hrun, hv⟩ := h1.lookup law9 Tryd.underlying104 (zeroB W) (plainElem_bool Tryd.underlying4 false) (WideMaps.keyOf_string_mk Tryd.underlying9 hs)
  rw [h3 s] at hv
  rw [hrun]
  unfold plainElem at hv
  rw [Tryd.underlying4] at hv
  cases v <;> simp at hv
  rw [hv.1]
theorem lit_ne {s s' : ByteArray} (h : s.data.toList ≠ s'.data.toList) : (Lit.string s.data.toList) ≠ .string s'.data.toList := fun e => h (by injection e)
theorem SetM_put {W' : World} {b : Nat} {seen : List ByteArray} {s : ByteArray} {D : DataW Unit} (h2 : Maps.IsMap D) (h3 : ∀ s : ByteArray, D.atKey (.string s.data.toList) (.lit (.bool false)) = .lit (.bool (hasS seen s)))
    (h1 : W'.ownsMap Tryd.prog 9 (plainElem Tryd.prog 4) b (seen.length + 1) (D.put (.string s.data.toList) (.lit (.bool true)))) : SetM W' b (s :: seen) := by
  refine ⟨_, h1, h2.put _ _, fun s' => ?_⟩
  by_cases h : s'.data.toList = s.data.toList
  · rw [h, Maps.atKey_put_same h2 (by trivial)]
    unfold hasS
    rw [List.any_cons, show (s.data.toList == s'.data.toList) = true from beq_iff_eq.2 h.symm, Bool.true_or]
  · rw [Maps.atKey_put_other (lit_ne h), h3]
    unfold hasS
    rw [List.any_cons, show (s.data.toList == s'.data.toList) = false from beq_eq_false_iff_ne.2 (fun e => h e.symm), Bool.false_or]

theorem w64c {x : Int} (h0 : -9223372036854775808 ≤ x) (h1 : x < 9223372036854775808) : wrap64 x = x := by
  unfold wrap64
  omega
theorem size_step {W W' : World} (h : Below W.heap.size W W') : W.heap.size ≤ W'.heap.size := h.size

set_option maxHeartbeats 4000000 in
set_option maxRecDepth 100000 in
theorem Chk_in (A0 : Option Addr) (c0 : Nat) (l0 : Rl) (w : World) (hr0 : Kd.C k35 w A0 l0.length l0) (hc0 : l0.length ≤ c0) :
    Calls Tryd.prog 36 #[.slice A0 l0.length c0] w fun e w' => e = .returned (.int .i64 (chkR l0)) ∧ Below w.heap.size w w' := by
  have hu61 := Tryd.underlying35
  have HR0 := Aside0.mk hr0
  have HC0 := Aside0.mk hc0
  clear hr0 hc0
  by_cases c2 : (l0.length : Int) > 64
  · have hres : chkR l0 = 2 := if_pos c2
    rw [hres]
    have c2b0 : decide (64 < (l0.length : Int)) = true := decide_eq_true c2
    clear hres c2
    go_enter Tryd.func36, Tryd.ntmps36
    go_wp2
    go_ret
    exact ⟨rfl, Below.refl _ _⟩
  · have hres : chkR l0 = chkL l0 [] := if_neg c2
    rw [hres]
    have c2b0 : decide (64 < (l0.length : Int)) = false := decide_eq_false c2
    obtain ⟨r, hr⟩ : ∃ r, r = chkL l0 [] := ⟨_, rfl⟩
    rw [← hr]
    have hlen64 : l0.length ≤ 64 := by omega
    replace hlen64 := Aside0.mk hlen64
    replace hr := Aside0.mk hr
    clear hres c2
    have hmm := @run_makeMap Tryd.prog
    go_enter Tryd.func36, Tryd.ntmps36
    go_wp2
    go_loopg [13] l0.length (fun kq v13 w' => ∃ (x : Int) (seen : List ByteArray), v13 = .int .i64 x ∧ Aside0 (0 ≤ x ∧ x + kq = l0.length) ∧ Aside0 (chkL (l0.drop x.toNat) seen = r) ∧ Aside0 (SetM w' w.heap.size seen ∧ (seen.length : Int) = x) ∧ Aside0 (Below w.heap.size w w'))
    case atStart => exact ⟨0, [], rfl, ⟨by omega⟩, ⟨hr.out.symm⟩, ⟨SetM_new w, by simp⟩, ⟨(Below.refl _ _).alloc (Nat.le_refl _) _⟩⟩
    case round =>
      obtain ⟨x, seen, rfl, hx, hch, hS, HB⟩ := hrel
      cases gk with
      | zero =>
        have c3b0 : decide (x < (l0.length : Int)) = false := decide_eq_false (by have := hx.out; omega)
        have hr0 : 0 = r := by
          have h1 := hch.out
          rw [List.drop_eq_nil_of_le (by have := hx.out; omega)] at h1
          exact h1
        subst hr0
        go_wp2
        go_ret
        exact ⟨rfl, HB.out⟩
      | succ k1 =>
        have c3 : x < (l0.length : Int) := by have := hx.out; omega
        have c3b0 : decide (x < (l0.length : Int)) = true := decide_eq_true c3
        have p228 : 0 ≤ x := hx.out.1
        obtain ⟨ad, ead, hx0, hx1, hx2, hx3⟩ := at_T35 HR0.out x p228 c3
        cases ead
        have hdrop : l0.drop x.toNat = rd_T35 l0 x :: l0.drop (x.toNat + 1) := by
          have hlt : x.toNat < l0.length := by omega
          rw [List.drop_eq_getElem_cons hlt]
          unfold rd_T35
          rw [List.getD_eq_getElem?_getD, List.getElem?_eq_getElem hlt]
          rfl
        have hchk := hch.out
        rw [hdrop] at hchk
        obtain ⟨⟨p, mi, mx, kd⟩, hrd⟩ : ∃ q, q = rd_T35 l0 x := ⟨_, rfl⟩
        rw [← hrd] at hx0 hx1 hx2 hx3 hchk
        simp only at hx0 hx1 hx2 hx3
        clear hrd hdrop hch
        replace hx0 := (HB.out.cell (World.block_lt_of_cell? w _ hx0)).trans hx0
        replace hx1 := (HB.out.cell (World.block_lt_of_cell? w _ hx1)).trans hx1
        replace hx2 := (HB.out.cell (World.block_lt_of_cell? w _ hx2)).trans hx2
        replace hx3 := (HB.out.cell (World.block_lt_of_cell? w _ hx3)).trans hx3
        replace p228 := eq_true p228
        replace c3 := eq_true c3
        rw [chkL] at hchk
        replace hchk := Aside0.mk hchk
        have hsl := Aside0.mk hS.out.2
        replace hS := Aside0.mk hS.out.1
        have hbm : w.heap.size < wr.heap.size := by
          obtain ⟨_, h1, _⟩ := hS.out
          exact h1.lt
        go_upto_region 8 with (fail)
        obtain ⟨W8, hW8⟩ : ∃ W8, wr.alloc (.cells #[.string p, .int .i64 mi, .int .i64 mx, .int .i64 kd] 35) = W8 := ⟨_, rfl⟩
        rw [hW8]
        have hbox8 : W8.heap[wr.heap.size]? = some (.cells #[.string p, .int .i64 mi, .int .i64 mx, .int .i64 kd] 35 (0, 0)) := by rw [← hW8]; exact blk_new _ _
        have hb8 : Below wr.heap.size wr W8 := by rw [← hW8]; exact below_alloc (Below.refl _ _) _
        have hS8 := SetM_below hS.out hb8
        have hB8 := below_step HB.out hb8
        have hcz0 : W8.cell? ⟨wr.heap.size, 0, none⟩ = some (.string p) := (blk_cell hbox8 0).trans rfl
        have hcz1 : W8.cell? ⟨wr.heap.size, 1, none⟩ = some (.int .i64 mi) := (blk_cell hbox8 1).trans rfl
        have hcz2 : W8.cell? ⟨wr.heap.size, 2, none⟩ = some (.int .i64 mx) := (blk_cell hbox8 2).trans rfl
        have hcz3 : W8.cell? ⟨wr.heap.size, 3, none⟩ = some (.int .i64 kd) := (blk_cell hbox8 3).trans rfl
        clear hx0 hx1 hx2 hx3 hS HB hW8 hb8
        replace hbox8 := Aside0.mk hbox8
        replace hS8 := Aside0.mk hS8
        replace hB8 := Aside0.mk hB8
        obtain ⟨bad, hbad⟩ : ∃ b, b = (badR ⟨p, mi, mx, kd⟩ || hasS seen p) := ⟨_, rfl⟩
        have hbad' := hbad
        unfold badR at hbad'
        simp only at hbad'
        have res : r = if bad = true then 80 else chkL (l0.drop (x.toNat + 1)) (p :: seen) := by
          rw [← hchk.out, hbad]
          simp only [Bool.or_eq_true]
        clear hchk hbad
        replace res := Aside0.mk res
        replace hbad' := Aside0.mk hbad'
        cases c9 : decide ((p.size : Int) < 1) with
        | true =>
          have hr80 : r = 80 := by rw [res.out, hbad'.out]; simp [*]
          clear res hbad'
          subst hr80
          go_wp2
          go_ret
          exact ⟨rfl, hB8.out⟩
        | false =>
          cases c15 : decide (15 < (p.size : Int)) with
          | true =>
            have hr80 : r = 80 := by rw [res.out, hbad'.out]; simp [*]
            clear res hbad'
            subst hr80
            go_wp2
            go_ret
            exact ⟨rfl, hB8.out⟩
          | false =>
            have hp15 : p.size ≤ 15 := by have := of_decide_eq_false c15; omega
            have hpl := Aside0.mk (show p.size ≤ maxLen by unfold maxLen; omega)
            have hnum0 : dialplan_numeric.f p = some (digB p) := by unfold dialplan_numeric.f; rw [if_pos (by omega)]
            clear hp15
            cases cd : digB p with
            | false =>
              have hnum := Aside0.mk (hnum0.trans (congrArg some cd))
              clear hnum0
              have hr80 : r = 80 := by rw [res.out, hbad'.out]; simp [*]
              clear res hbad'
              subst hr80
              go_wp2_with (go_at_call 38; refine (dialplan_numeric.calls p false _ hnum.out).mono ?_; rintro e W9 ⟨rfl, hB9⟩; have hS9 := SetM_below hS8.out hB9; have hl9 := SetM_look hS9 p hpl.out; have hbx9 := blk_below hbox8.out hB9; have hcy0 : W9.cell? ⟨wr.heap.size, 0, none⟩ = some (.string p) := (blk_cell hbx9 0).trans rfl; have hcy1 : W9.cell? ⟨wr.heap.size, 1, none⟩ = some (.int .i64 mi) := (blk_cell hbx9 1).trans rfl; have hcy2 : W9.cell? ⟨wr.heap.size, 2, none⟩ = some (.int .i64 mx) := (blk_cell hbx9 2).trans rfl; have hcy3 : W9.cell? ⟨wr.heap.size, 3, none⟩ = some (.int .i64 kd) := (blk_cell hbx9 3).trans rfl; have hB9' := Aside0.mk (below_step hB8.out hB9); clear hl9; replace hS9 := Aside0.mk hS9; replace hbx9 := Aside0.mk hbx9; replace hB9 := Aside0.mk hB9)
              go_ret
              exact ⟨rfl, hB9'.out⟩
            | true =>
              have hnum := Aside0.mk (hnum0.trans (congrArg some cd))
              clear hnum0
              cases cs : hasS seen p with
              | true =>
                have hr80 : r = 80 := by rw [res.out, hbad'.out]; simp [*]
                clear res hbad'
                subst hr80
                go_wp2_with (go_at_call 38; refine (dialplan_numeric.calls p true _ hnum.out).mono ?_; rintro e W9 ⟨rfl, hB9⟩; have hS9 := SetM_below hS8.out hB9; have hl9 := SetM_look hS9 p hpl.out; have hbx9 := blk_below hbox8.out hB9; have hcy0 : W9.cell? ⟨wr.heap.size, 0, none⟩ = some (.string p) := (blk_cell hbx9 0).trans rfl; have hcy1 : W9.cell? ⟨wr.heap.size, 1, none⟩ = some (.int .i64 mi) := (blk_cell hbx9 1).trans rfl; have hcy2 : W9.cell? ⟨wr.heap.size, 2, none⟩ = some (.int .i64 mx) := (blk_cell hbx9 2).trans rfl; have hcy3 : W9.cell? ⟨wr.heap.size, 3, none⟩ = some (.int .i64 kd) := (blk_cell hbx9 3).trans rfl; have hB9' := Aside0.mk (below_step hB8.out hB9); rw [cs] at hl9; replace hS9 := Aside0.mk hS9; replace hbx9 := Aside0.mk hbx9; replace hB9 := Aside0.mk hB9)
                go_ret
                exact ⟨rfl, hB9'.out⟩
              | false =>
                cases ck1 : decide (kd < 1) with
                | true =>
                  have hr80 : r = 80 := by rw [res.out, hbad'.out]; simp [*]
                  clear res hbad'
                  subst hr80
                  go_wp2_with (go_at_call 38; refine (dialplan_numeric.calls p true _ hnum.out).mono ?_; rintro e W9 ⟨rfl, hB9⟩; have hS9 := SetM_below hS8.out hB9; have hl9 := SetM_look hS9 p hpl.out; have hbx9 := blk_below hbox8.out hB9; have hcy0 : W9.cell? ⟨wr.heap.size, 0, none⟩ = some (.string p) := (blk_cell hbx9 0).trans rfl; have hcy1 : W9.cell? ⟨wr.heap.size, 1, none⟩ = some (.int .i64 mi) := (blk_cell hbx9 1).trans rfl; have hcy2 : W9.cell? ⟨wr.heap.size, 2, none⟩ = some (.int .i64 mx) := (blk_cell hbx9 2).trans rfl; have hcy3 : W9.cell? ⟨wr.heap.size, 3, none⟩ = some (.int .i64 kd) := (blk_cell hbx9 3).trans rfl; have hB9' := Aside0.mk (below_step hB8.out hB9); rw [cs] at hl9; replace hS9 := Aside0.mk hS9; replace hbx9 := Aside0.mk hbx9; replace hB9 := Aside0.mk hB9)
                  go_ret
                  exact ⟨rfl, hB9'.out⟩
                | false =>
                  cases ck4 : decide (4 < kd) with
                  | true =>
                    have hr80 : r = 80 := by rw [res.out, hbad'.out]; simp [*]
                    clear res hbad'
                    subst hr80
                    go_wp2_with (go_at_call 38; refine (dialplan_numeric.calls p true _ hnum.out).mono ?_; rintro e W9 ⟨rfl, hB9⟩; have hS9 := SetM_below hS8.out hB9; have hl9 := SetM_look hS9 p hpl.out; have hbx9 := blk_below hbox8.out hB9; have hcy0 : W9.cell? ⟨wr.heap.size, 0, none⟩ = some (.string p) := (blk_cell hbx9 0).trans rfl; have hcy1 : W9.cell? ⟨wr.heap.size, 1, none⟩ = some (.int .i64 mi) := (blk_cell hbx9 1).trans rfl; have hcy2 : W9.cell? ⟨wr.heap.size, 2, none⟩ = some (.int .i64 mx) := (blk_cell hbx9 2).trans rfl; have hcy3 : W9.cell? ⟨wr.heap.size, 3, none⟩ = some (.int .i64 kd) := (blk_cell hbx9 3).trans rfl; have hB9' := Aside0.mk (below_step hB8.out hB9); rw [cs] at hl9; replace hS9 := Aside0.mk hS9; replace hbx9 := Aside0.mk hbx9; replace hB9 := Aside0.mk hB9)
                    go_ret
                    exact ⟨rfl, hB9'.out⟩
                  | false =>
                    cases cm : decide (mi < (p.size : Int)) with
                    | true =>
                      have hr80 : r = 80 := by rw [res.out, hbad'.out]; simp [*]
                      clear res hbad'
                      subst hr80
                      go_wp2_with (go_at_call 38; refine (dialplan_numeric.calls p true _ hnum.out).mono ?_; rintro e W9 ⟨rfl, hB9⟩; have hS9 := SetM_below hS8.out hB9; have hl9 := SetM_look hS9 p hpl.out; have hbx9 := blk_below hbox8.out hB9; have hcy0 : W9.cell? ⟨wr.heap.size, 0, none⟩ = some (.string p) := (blk_cell hbx9 0).trans rfl; have hcy1 : W9.cell? ⟨wr.heap.size, 1, none⟩ = some (.int .i64 mi) := (blk_cell hbx9 1).trans rfl; have hcy2 : W9.cell? ⟨wr.heap.size, 2, none⟩ = some (.int .i64 mx) := (blk_cell hbx9 2).trans rfl; have hcy3 : W9.cell? ⟨wr.heap.size, 3, none⟩ = some (.int .i64 kd) := (blk_cell hbx9 3).trans rfl; have hB9' := Aside0.mk (below_step hB8.out hB9); rw [cs] at hl9; replace hS9 := Aside0.mk hS9; replace hbx9 := Aside0.mk hbx9; replace hB9 := Aside0.mk hB9)
                      go_ret
                      exact ⟨rfl, hB9'.out⟩
                    | false =>
                      cases cx : decide (mx < mi) with
                      | true =>
                        have hr80 : r = 80 := by rw [res.out, hbad'.out]; simp [*]
                        clear res hbad'
                        subst hr80
                        go_wp2_with (go_at_call 38; refine (dialplan_numeric.calls p true _ hnum.out).mono ?_; rintro e W9 ⟨rfl, hB9⟩; have hS9 := SetM_below hS8.out hB9; have hl9 := SetM_look hS9 p hpl.out; have hbx9 := blk_below hbox8.out hB9; have hcy0 : W9.cell? ⟨wr.heap.size, 0, none⟩ = some (.string p) := (blk_cell hbx9 0).trans rfl; have hcy1 : W9.cell? ⟨wr.heap.size, 1, none⟩ = some (.int .i64 mi) := (blk_cell hbx9 1).trans rfl; have hcy2 : W9.cell? ⟨wr.heap.size, 2, none⟩ = some (.int .i64 mx) := (blk_cell hbx9 2).trans rfl; have hcy3 : W9.cell? ⟨wr.heap.size, 3, none⟩ = some (.int .i64 kd) := (blk_cell hbx9 3).trans rfl; have hB9' := Aside0.mk (below_step hB8.out hB9); rw [cs] at hl9; replace hS9 := Aside0.mk hS9; replace hbx9 := Aside0.mk hbx9; replace hB9 := Aside0.mk hB9)
                        go_ret
                        exact ⟨rfl, hB9'.out⟩
                      | false =>
                        cases cx20 : decide (20 < mx) with
                        | true =>
                          have hr80 : r = 80 := by rw [res.out, hbad'.out]; simp [*]
                          clear res hbad'
                          subst hr80
                          go_wp2_with (go_at_call 38; refine (dialplan_numeric.calls p true _ hnum.out).mono ?_; rintro e W9 ⟨rfl, hB9⟩; have hS9 := SetM_below hS8.out hB9; have hl9 := SetM_look hS9 p hpl.out; have hbx9 := blk_below hbox8.out hB9; have hcy0 : W9.cell? ⟨wr.heap.size, 0, none⟩ = some (.string p) := (blk_cell hbx9 0).trans rfl; have hcy1 : W9.cell? ⟨wr.heap.size, 1, none⟩ = some (.int .i64 mi) := (blk_cell hbx9 1).trans rfl; have hcy2 : W9.cell? ⟨wr.heap.size, 2, none⟩ = some (.int .i64 mx) := (blk_cell hbx9 2).trans rfl; have hcy3 : W9.cell? ⟨wr.heap.size, 3, none⟩ = some (.int .i64 kd) := (blk_cell hbx9 3).trans rfl; have hB9' := Aside0.mk (below_step hB8.out hB9); rw [cs] at hl9; replace hS9 := Aside0.mk hS9; replace hbx9 := Aside0.mk hbx9; replace hB9 := Aside0.mk hB9)
                          go_ret
                          exact ⟨rfl, hB9'.out⟩
                        | false =>
                          have hrn : chkL (l0.drop (x.toNat + 1)) (p :: seen) = r := by rw [res.out, hbad'.out]; simp [*]
                          clear res hbad'
                          replace hrn := Aside0.mk hrn
                          have hx1 : wrap64 (x + 1) = x + 1 := w64c (by have := hx.out; have := hlen64.out; omega) (by have := hx.out; have := hlen64.out; omega)
                          replace hx1 := Aside0.mk hx1
                          go_wp2_with (first | (go_at_call 38; refine (dialplan_numeric.calls p true _ hnum.out).mono ?_; rintro e W9 ⟨rfl, hB9⟩; have hS9 := SetM_below hS8.out hB9; have hl9 := SetM_look hS9 p hpl.out; have hbx9 := blk_below hbox8.out hB9; have hcy0 : W9.cell? ⟨wr.heap.size, 0, none⟩ = some (.string p) := (blk_cell hbx9 0).trans rfl; have hcy1 : W9.cell? ⟨wr.heap.size, 1, none⟩ = some (.int .i64 mi) := (blk_cell hbx9 1).trans rfl; have hcy2 : W9.cell? ⟨wr.heap.size, 2, none⟩ = some (.int .i64 mx) := (blk_cell hbx9 2).trans rfl; have hcy3 : W9.cell? ⟨wr.heap.size, 3, none⟩ = some (.int .i64 kd) := (blk_cell hbx9 3).trans rfl; have hB9' := Aside0.mk (below_step hB8.out hB9); rw [cs] at hl9; replace hS9 := Aside0.mk hS9; replace hbx9 := Aside0.mk hbx9; replace hB9 := Aside0.mk hB9) | (at_mapUpdate; obtain ⟨D, hD1, hD2, hD3⟩ := hS9.out; refine wpList_mapUpdate_own _ rfl _ _ _ 104 rfl 9 4 law9 Tryd.underlying104 _ w.heap.size seen.length D rfl hD1 (by have := hsl.out; have := hx.out; have := hlen64.out; unfold maxLen; omega) _ _ _ rfl rfl (WideMaps.keyOf_string_mk Tryd.underlying9 hpl.out) (.lit (.bool true)) [] (plainElem_bool Tryd.underlying4 true) ?_; intro W10 hown hgr; have hS10 := Aside0.mk (SetM_put hD2 hD3 hown); have hB10 := Aside0.mk (hB9'.out.grown hgr hB9'.out.size (fun j hj => by cases hj; exact Nat.le_refl _)); clear hown hgr hD1 hD2 hD3))
                          go_roundg k1
                          case measure => omega
                          case rel =>
                            refine ⟨x + 1, p :: seen, ?_, ⟨by have := hx.out; omega⟩, ⟨?_⟩, ⟨hS10.out, ?_⟩, hB10⟩
                            · first | rfl | (rw [hx1.out]) | (simp [hx1.out])
                            · have : (x + 1).toNat = x.toNat + 1 := by have := hx.out; omega
                              rw [this]; exact hrn.out
                            · have := hsl.out; rw [List.length_cons]; omega

theorem dialplan_Check.calls (A0 : Option Addr) (c0 : Nat) (l0 : Rl) (r : Int) (w : World) (hr0 : Kd.C k35 w A0 l0.length l0) (hc0 : l0.length ≤ c0) (h : dialplan_Check.f l0 = some r) :
    Calls Tryd.prog 36 #[.slice A0 l0.length c0] w fun e w' => e = .returned (.int .i64 r) ∧ Below w.heap.size w w' := by
  obtain rfl : chkR l0 = r := Option.some.inj h
  exact Chk_in A0 c0 l0 w hr0 hc0

end Go.Proofs.YthknfclhkmehgaaDoor.Fn
