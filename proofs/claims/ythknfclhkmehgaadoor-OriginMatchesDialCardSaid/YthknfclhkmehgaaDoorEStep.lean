/-
  origin.Step: the walk.
-/
import Derived.Test.YthknfclhkmehgaaDoorEDig
import Derived.Test.YthknfclhkmehgaaDoorETab
import Derived.Test.YthknfclhkmehgaaDoorFn11
import Derived.Deep.RegionHeld3
namespace Go.Proofs.YthknfclhkmehgaaDoor.Fn
open Go.RowKit Go.Maps Go.Proofs.YthknfclhkmehgaaDoorW.PrintWords Go.Proofs.YthknfclhkmehgaaDoorW.PrintLast Go.Proofs.YthknfclhkmehgaaDoorW.PrintMore
set_option linter.unusedVariables false
set_option linter.unusedSimpArgs false

noncomputable def methF (k : Nat) (l : Rl) (st : Int) (d : ByteArray) (ec ed : Int) (f : Nat) : Option O3 :=
  if f = 66 then some (1, ⟨#[]⟩, [actK 1, ⟨9, 0, ⟨#[]⟩, 10⟩])
  else if f = 67 then some (st, d, [])
  else if f = 68 then digF k l d ed
  else if f = 69 then timF k l d
  else if f = 70 then some (0, ⟨#[]⟩, [actK 10, actK 2])
  else if f = 71 then some (3, ⟨#[]⟩, [actK 4])
  else if f = 72 then some (4, ⟨#[]⟩, [actK 2, actK 8])
  else if f = 73 then some (5, ⟨#[]⟩, [⟨3, ec, ⟨#[]⟩, 0⟩])
  else if f = 74 then some (0, ⟨#[]⟩, [actK 2, ⟨7, 16, ⟨#[]⟩, 0⟩])
  else if f = 75 then some (0, ⟨#[]⟩, [actK 2])
  else none
/-- Whether the event is none. -/
def badE (ek ec ed : Int) : Bool := decide (ek < 1) || (decide (12 < ek) || ((decide (ek = 3) && (decide (ed < 48) || decide (57 < ed))) || (decide (ek = 9) && (decide (ec < 1) || decide (127 < ec)))))
noncomputable def origin_Step.f (k : Nat) (st : Int) (d : ByteArray) (l : Rl) (ek ec ed : Int) : Option (Int × ByteArray × Al × Int) :=
  (origin_Check.f k st d l).bind fun r => if r ≠ 0 then some (0, ⟨#[]⟩, [], r) else if badE ek ec ed = true then some (0, ⟨#[]⟩, [], 1) else if 0 ≤ st ∧ st ≤ 5 then (match tabI st ek with
    | none => some (0, ⟨#[]⟩, [], 160)
    | some f => (methF k l st d ec ed f).bind fun o => some (o.1, o.2.1, o.2.2, 0)) else none
def FnOk (f : Nat) : Prop := ∃ fn, Tryd.prog.funcs[f]? = some fn ∧ (fn.name == "runtime.NumGoroutine") = false ∧ fn.body.isSome = true

theorem goesV_ {P : Program} {ops : Array Oper} {Q : Exit → Act → World → Prop} {rest : List Oper} {oi : Oper} {a : Act} {w : World} (N : Option Tmp) (hd : oi.dst = N) (hg : oi.guard = none) {f : FuncId} {fn : Func} {t : Tmp} {xs : Array Operand} {ts : Array TypeId} (hf : P.funcs[f]? = some fn) (hname : (fn.name == "runtime.NumGoroutine") = false) (hb : fn.body.isSome = true) (args : Array Value)
    (hop : oi.op = .call { callee := .value (.tmp t), args := xs, argTypes := ts }) (hv : a.eval (.tmp t) = .func (.func f) #[] #[]) (hargs : xs.map a.eval = args)
    (h : Calls P f args w fun e w' => ∃ v, e = .returned v ∧ wpList P ops Q rest (a.put N v) w') : wpList P ops Q (oi :: rest) a w := by
  refine wpList_plain hg fun K hK => ?_
  have he := enters_ hf hname hb args w
  have hrun : (execOp a.eval oi).run P w = .ok (.enter f args) w := by
    unfold execOp
    simp [hop, resolve, Deferred.ofValue, invoke, hv, hargs, he]
  unfold Oper.wp
  rw [hrun, Oper.upon_enter]
  refine h.mono fun e w'' hh => ?_
  obtain ⟨v, rfl, hk⟩ := hh
  subst hd
  exact hK _ _ hk

set_option maxRecDepth 100000 in
theorem Meth_in (k : Nat) (w0 : World) (c : Nat) (A0 : Option Addr) (c0 : Nat) (l : Rl) (hr0 : Kd.C k35 w0 A0 l.length l) (hc0 : l.length ≤ c0) (ek ec ed : Int) (w : World) (st : Int) (d : ByteArray) (h : Cl w0 c A0 l.length c0 ek ec ed w st d []) (f : Nat) (ht : tabI st ek = some f) (o : O3) (ho : methF k l st d ec ed f = some o) :
    FnOk f ∧ Calls Tryd.prog f #[.pointer (some ⟨c, 0, none⟩)] w fun e w' => e = .returned (.tuple #[]) ∧ Cl w0 c A0 l.length c0 ek ec ed w' o.1 o.2.1 o.2.2 := by
  obtain ⟨j, hj, hr⟩ := tab_row ht
  clear ht
  match j, hj, hr with
  | 0, _, hr =>
    obtain rfl := (show (0 : Int) = st from congrArg (fun x => x.1) hr)
    obtain rfl := (show (1 : Int) = ek from congrArg (fun x => x.2.1) hr)
    obtain rfl := (show (66 : Nat) = f from congrArg (fun x => x.2.2) hr)
    obtain rfl := Option.some.inj (show some (1, ⟨#[]⟩, [actK 1, ⟨9, 0, ⟨#[]⟩, 10⟩]) = some o from ho)
    exact ⟨⟨_, Tryd.func66, rfl, rfl⟩, OffHook_in w0 c A0 _ c0 _ _ _ w _ d h⟩
  | 1, _, hr =>
    obtain rfl := (show (0 : Int) = st from congrArg (fun x => x.1) hr)
    obtain rfl := (show (3 : Int) = ek from congrArg (fun x => x.2.1) hr)
    obtain rfl := (show (67 : Nat) = f from congrArg (fun x => x.2.2) hr)
    obtain rfl := Option.some.inj (show some ((0 : Int), d, []) = some o from ho)
    exact ⟨⟨_, Tryd.func67, rfl, rfl⟩, Ignore_in w0 c A0 _ c0 _ _ _ w _ d h⟩
  | 2, _, hr =>
    obtain rfl := (show (1 : Int) = st from congrArg (fun x => x.1) hr)
    obtain rfl := (show (3 : Int) = ek from congrArg (fun x => x.2.1) hr)
    obtain rfl := (show (68 : Nat) = f from congrArg (fun x => x.2.2) hr)
    have ho : digF k l d ed = some o := ho
    exact ⟨⟨_, Tryd.func68, rfl, rfl⟩, Digit_in k w0 c A0 c0 l hr0 hc0 _ _ _ w d h o ho⟩
  | 3, _, hr =>
    obtain rfl := (show (1 : Int) = st from congrArg (fun x => x.1) hr)
    obtain rfl := (show (4 : Int) = ek from congrArg (fun x => x.2.1) hr)
    obtain rfl := (show (69 : Nat) = f from congrArg (fun x => x.2.2) hr)
    have ho : timF k l d = some o := ho
    exact ⟨⟨_, Tryd.func69, rfl, rfl⟩, Timeout_in k w0 c A0 c0 l hr0 hc0 _ _ _ w 1 d h o ho⟩
  | 4, _, hr =>
    obtain rfl := (show (1 : Int) = st from congrArg (fun x => x.1) hr)
    obtain rfl := (show (2 : Int) = ek from congrArg (fun x => x.2.1) hr)
    obtain rfl := (show (70 : Nat) = f from congrArg (fun x => x.2.2) hr)
    obtain rfl := Option.some.inj (show some (0, ⟨#[]⟩, [actK 10, actK 2]) = some o from ho)
    exact ⟨⟨_, Tryd.func70, rfl, rfl⟩, Abandon_in w0 c A0 _ c0 _ _ _ w _ d h⟩
  | 5, _, hr =>
    obtain rfl := (show (2 : Int) = st from congrArg (fun x => x.1) hr)
    obtain rfl := (show (3 : Int) = ek from congrArg (fun x => x.2.1) hr)
    obtain rfl := (show (67 : Nat) = f from congrArg (fun x => x.2.2) hr)
    obtain rfl := Option.some.inj (show some ((2 : Int), d, []) = some o from ho)
    exact ⟨⟨_, Tryd.func67, rfl, rfl⟩, Ignore_in w0 c A0 _ c0 _ _ _ w _ d h⟩
  | 6, _, hr =>
    obtain rfl := (show (2 : Int) = st from congrArg (fun x => x.1) hr)
    obtain rfl := (show (6 : Int) = ek from congrArg (fun x => x.2.1) hr)
    obtain rfl := (show (67 : Nat) = f from congrArg (fun x => x.2.2) hr)
    obtain rfl := Option.some.inj (show some ((2 : Int), d, []) = some o from ho)
    exact ⟨⟨_, Tryd.func67, rfl, rfl⟩, Ignore_in w0 c A0 _ c0 _ _ _ w _ d h⟩
  | 7, _, hr =>
    obtain rfl := (show (2 : Int) = st from congrArg (fun x => x.1) hr)
    obtain rfl := (show (7 : Int) = ek from congrArg (fun x => x.2.1) hr)
    obtain rfl := (show (71 : Nat) = f from congrArg (fun x => x.2.2) hr)
    obtain rfl := Option.some.inj (show some (3, ⟨#[]⟩, [actK 4]) = some o from ho)
    exact ⟨⟨_, Tryd.func71, rfl, rfl⟩, Ringing_in w0 c A0 _ c0 _ _ _ w _ d h⟩
  | 8, _, hr =>
    obtain rfl := (show (2 : Int) = st from congrArg (fun x => x.1) hr)
    obtain rfl := (show (8 : Int) = ek from congrArg (fun x => x.2.1) hr)
    obtain rfl := (show (72 : Nat) = f from congrArg (fun x => x.2.2) hr)
    obtain rfl := Option.some.inj (show some (4, ⟨#[]⟩, [actK 2, actK 8]) = some o from ho)
    exact ⟨⟨_, Tryd.func72, rfl, rfl⟩, Answer_in w0 c A0 _ c0 _ _ _ w _ d h⟩
  | 9, _, hr =>
    obtain rfl := (show (2 : Int) = st from congrArg (fun x => x.1) hr)
    obtain rfl := (show (9 : Int) = ek from congrArg (fun x => x.2.1) hr)
    obtain rfl := (show (73 : Nat) = f from congrArg (fun x => x.2.2) hr)
    obtain rfl := Option.some.inj (show some (5, ⟨#[]⟩, [⟨3, ec, ⟨#[]⟩, 0⟩]) = some o from ho)
    exact ⟨⟨_, Tryd.func73, rfl, rfl⟩, Released_in w0 c A0 _ c0 _ _ _ w _ d h⟩
  | 10, _, hr =>
    obtain rfl := (show (2 : Int) = st from congrArg (fun x => x.1) hr)
    obtain rfl := (show (2 : Int) = ek from congrArg (fun x => x.2.1) hr)
    obtain rfl := (show (74 : Nat) = f from congrArg (fun x => x.2.2) hr)
    obtain rfl := Option.some.inj (show some (0, ⟨#[]⟩, [actK 2, ⟨7, 16, ⟨#[]⟩, 0⟩]) = some o from ho)
    exact ⟨⟨_, Tryd.func74, rfl, rfl⟩, HangUp_in w0 c A0 _ c0 _ _ _ w _ d h⟩
  | 11, _, hr =>
    obtain rfl := (show (3 : Int) = st from congrArg (fun x => x.1) hr)
    obtain rfl := (show (3 : Int) = ek from congrArg (fun x => x.2.1) hr)
    obtain rfl := (show (67 : Nat) = f from congrArg (fun x => x.2.2) hr)
    obtain rfl := Option.some.inj (show some ((3 : Int), d, []) = some o from ho)
    exact ⟨⟨_, Tryd.func67, rfl, rfl⟩, Ignore_in w0 c A0 _ c0 _ _ _ w _ d h⟩
  | 12, _, hr =>
    obtain rfl := (show (3 : Int) = st from congrArg (fun x => x.1) hr)
    obtain rfl := (show (8 : Int) = ek from congrArg (fun x => x.2.1) hr)
    obtain rfl := (show (72 : Nat) = f from congrArg (fun x => x.2.2) hr)
    obtain rfl := Option.some.inj (show some (4, ⟨#[]⟩, [actK 2, actK 8]) = some o from ho)
    exact ⟨⟨_, Tryd.func72, rfl, rfl⟩, Answer_in w0 c A0 _ c0 _ _ _ w _ d h⟩
  | 13, _, hr =>
    obtain rfl := (show (3 : Int) = st from congrArg (fun x => x.1) hr)
    obtain rfl := (show (9 : Int) = ek from congrArg (fun x => x.2.1) hr)
    obtain rfl := (show (73 : Nat) = f from congrArg (fun x => x.2.2) hr)
    obtain rfl := Option.some.inj (show some (5, ⟨#[]⟩, [⟨3, ec, ⟨#[]⟩, 0⟩]) = some o from ho)
    exact ⟨⟨_, Tryd.func73, rfl, rfl⟩, Released_in w0 c A0 _ c0 _ _ _ w _ d h⟩
  | 14, _, hr =>
    obtain rfl := (show (3 : Int) = st from congrArg (fun x => x.1) hr)
    obtain rfl := (show (2 : Int) = ek from congrArg (fun x => x.2.1) hr)
    obtain rfl := (show (74 : Nat) = f from congrArg (fun x => x.2.2) hr)
    obtain rfl := Option.some.inj (show some (0, ⟨#[]⟩, [actK 2, ⟨7, 16, ⟨#[]⟩, 0⟩]) = some o from ho)
    exact ⟨⟨_, Tryd.func74, rfl, rfl⟩, HangUp_in w0 c A0 _ c0 _ _ _ w _ d h⟩
  | 15, _, hr =>
    obtain rfl := (show (4 : Int) = st from congrArg (fun x => x.1) hr)
    obtain rfl := (show (3 : Int) = ek from congrArg (fun x => x.2.1) hr)
    obtain rfl := (show (67 : Nat) = f from congrArg (fun x => x.2.2) hr)
    obtain rfl := Option.some.inj (show some ((4 : Int), d, []) = some o from ho)
    exact ⟨⟨_, Tryd.func67, rfl, rfl⟩, Ignore_in w0 c A0 _ c0 _ _ _ w _ d h⟩
  | 16, _, hr =>
    obtain rfl := (show (4 : Int) = st from congrArg (fun x => x.1) hr)
    obtain rfl := (show (9 : Int) = ek from congrArg (fun x => x.2.1) hr)
    obtain rfl := (show (73 : Nat) = f from congrArg (fun x => x.2.2) hr)
    obtain rfl := Option.some.inj (show some (5, ⟨#[]⟩, [⟨3, ec, ⟨#[]⟩, 0⟩]) = some o from ho)
    exact ⟨⟨_, Tryd.func73, rfl, rfl⟩, Released_in w0 c A0 _ c0 _ _ _ w _ d h⟩
  | 17, _, hr =>
    obtain rfl := (show (4 : Int) = st from congrArg (fun x => x.1) hr)
    obtain rfl := (show (2 : Int) = ek from congrArg (fun x => x.2.1) hr)
    obtain rfl := (show (74 : Nat) = f from congrArg (fun x => x.2.2) hr)
    obtain rfl := Option.some.inj (show some (0, ⟨#[]⟩, [actK 2, ⟨7, 16, ⟨#[]⟩, 0⟩]) = some o from ho)
    exact ⟨⟨_, Tryd.func74, rfl, rfl⟩, HangUp_in w0 c A0 _ c0 _ _ _ w _ d h⟩
  | 18, _, hr =>
    obtain rfl := (show (5 : Int) = st from congrArg (fun x => x.1) hr)
    obtain rfl := (show (3 : Int) = ek from congrArg (fun x => x.2.1) hr)
    obtain rfl := (show (67 : Nat) = f from congrArg (fun x => x.2.2) hr)
    obtain rfl := Option.some.inj (show some ((5 : Int), d, []) = some o from ho)
    exact ⟨⟨_, Tryd.func67, rfl, rfl⟩, Ignore_in w0 c A0 _ c0 _ _ _ w _ d h⟩
  | 19, _, hr =>
    obtain rfl := (show (5 : Int) = st from congrArg (fun x => x.1) hr)
    obtain rfl := (show (2 : Int) = ek from congrArg (fun x => x.2.1) hr)
    obtain rfl := (show (75 : Nat) = f from congrArg (fun x => x.2.2) hr)
    obtain rfl := Option.some.inj (show some (0, ⟨#[]⟩, [actK 2]) = some o from ho)
    exact ⟨⟨_, Tryd.func75, rfl, rfl⟩, Leave_in w0 c A0 _ c0 _ _ _ w _ d h⟩
  | n + 20, hj, _ => exact absurd hj (by omega)

theorem Tab_look' {W : World} {b : Nat} (h : TabM W b) (st ek : Int) (h0 : 0 ≤ st) (h1 : st ≤ 5) (h2 : 1 ≤ ek) (h3 : ek ≤ 12) :
    (Instr.lookup 93 (.map (some b)) (.agg #[.int .i64 st, .int .i64 ek]) true).run Tryd.prog W = .ok (.tuple #[match tabI st ek with | some f => .func (.func f) #[] #[] | none => .nilFunc, .bool (tabI st ek).isSome]) W := by
  have hs : ((⟨st.toNat, by omega⟩ : Fin 6) : Nat) = st.toNat := rfl
  have he : ((⟨ek.toNat, by omega⟩ : Fin 13) : Nat) = ek.toNat := rfl
  have h4 := Tab_look h ⟨st.toNat, by omega⟩ ⟨ek.toNat, by omega⟩
  simp only [hs, he] at h4
  rwa [Int.toNat_of_nonneg h0, Int.toNat_of_nonneg (by omega : 0 ≤ ek)] at h4
theorem Table_in' (w : World) : Calls Tryd.prog 51 #[] w fun e w' => ∃ b, e = .returned (.map (some b)) ∧ TabM w' b ∧ Below w.heap.size w w' :=
  (Table_in w).mono fun e w' ⟨h1, h2, h3⟩ => ⟨_, h1, h2, h3⟩
theorem step_end {Post : Ending → World → Prop} {W : World} {a : Act} {b6 : Nat} {s : Int} {dd : ByteArray} {v : Value} {e4 : Int} (h : W.heap[b6]? = some (.cells #[.int .i64 s, .string dd] 45 (0, 0))) (h6 : a.tmps[6]? = some (.pointer (some ⟨b6, 0, none⟩))) (h7 : a.tmps[7]? = some v) (h8 : a.tmps[8]? = some (.int .i64 e4)) (hd : a.defers = []) (hP : Post (.returned (.tuple #[.agg #[.int .i64 s, .string dd], v, .int .i64 e4])) W) :
    bodyPost Tryd.prog Tryd.f24 Post Exit.ret a W := by
  have hu45 := Tryd.underlying45
  have hc0 : W.cell? ⟨b6, 0, none⟩ = some (.int .i64 s) := (blk_cell h 0).trans rfl
  have hc1 : W.cell? ⟨b6, 1, none⟩ = some (.string dd) := (blk_cell h 1).trans rfl
  refine bodyPost_ret (v := .tuple #[.agg #[.int .i64 s, .string dd], v, .int .i64 e4]) ?_ hd hP
  obtain ⟨tmps, defers⟩ := a
  dsimp only at h6 h7 h8
  simp [results, Tryd.f24, go_sem, hc0, hc1, h6, h7, h8, hu45]

set_option maxHeartbeats 8000000 in
set_option maxRecDepth 100000 in
theorem origin_Step.calls (k : Nat) (st : Int) (d : ByteArray) (A1 : Option Addr) (c1 : Nat) (l1 : Rl) (ek ec ed : Int) (r1 : Int) (r2 : ByteArray) (r3 : Al) (r4 : Int) (w : World) (hr1 : Kd.C k35 w A1 l1.length l1) (hc1 : l1.length ≤ c1) (h : origin_Step.f k st d l1 ek ec ed = some (r1, r2, r3, r4)) :
    Calls Tryd.prog 24 #[.agg #[.int .i64 st, .string d], .slice A1 l1.length c1, .agg #[.int .i64 ek, .int .i64 ec, .int .u8 ed]] w fun e w' => ∃ v2_, e = .returned (.tuple #[.agg #[.int .i64 r1, .string r2], v2_, .int .i64 r4]) ∧ Kd.R k62 62 w' w.heap.size (fun _ => True) v2_ r3 ∧ Below w.heap.size w w' := by
  have hu45 := Tryd.underlying45
  have hu47 := Tryd.underlying47
  have hu99 := Tryd.underlying99
  unfold origin_Step.f at h
  obtain ⟨rc, hK, h⟩ := Option.bind_eq_some_iff.1 h
  have HR1 := Aside0.mk hr1
  have HC1 := Aside0.mk hc1
  replace hK := Aside0.mk hK
  clear hr1 hc1
  go_enter Tryd.func24, Tryd.ntmps24
  go_upto_region 1 with (fail)
  obtain ⟨W0, hW0⟩ : ∃ W0, ((w.alloc (.cells #[.int .i64 st, .string d] 45)).alloc (.cells #[.int .i64 ek, .int .i64 ec, .int .u8 ed] 47)).alloc (.cells #[.int .i64 0, .string ⟨#[]⟩] 45) = W0 := ⟨_, rfl⟩
  rw [hW0]
  obtain ⟨b6, hb6⟩ : ∃ b6, b6 = w.heap.size + 1 + 1 := ⟨_, rfl⟩
  rw [← hb6]
  obtain ⟨b5, hb5⟩ : ∃ b5, b5 = w.heap.size + 1 := ⟨_, rfl⟩
  rw [← hb5]
  obtain ⟨b3, hb3⟩ : ∃ b3, w.heap.size = b3 := ⟨_, rfl⟩
  have hB0 : Below w.heap.size w W0 := by rw [← hW0]; exact below_alloc (below_alloc (below_alloc (Below.refl _ _) _) _) _
  have k3 : W0.heap[b3]? = some (.cells #[.int .i64 st, .string d] 45 (0, 0)) := by
    rw [← hW0, ← hb3]
    exact blk_alloc (blk_alloc (blk_new w _) _) _
  have k5 : W0.heap[b5]? = some (.cells #[.int .i64 ek, .int .i64 ec, .int .u8 ed] 47 (0, 0)) := by
    have h1 := blk_new (w.alloc (.cells #[.int .i64 st, .string d] 45)) (.cells #[.int .i64 ek, .int .i64 ec, .int .u8 ed] 47)
    rw [World.size_alloc, ← hb5] at h1
    rw [← hW0]
    exact blk_alloc h1 _
  have k6 : W0.heap[b6]? = some (.cells #[.int .i64 0, .string ⟨#[]⟩] 45 (0, 0)) := by
    have h1 := blk_new ((w.alloc (.cells #[.int .i64 st, .string d] 45)).alloc (.cells #[.int .i64 ek, .int .i64 ec, .int .u8 ed] 47)) (.cells #[.int .i64 0, .string ⟨#[]⟩] 45)
    rw [World.size_alloc, World.size_alloc, ← hb6] at h1
    rw [← hW0]
    exact h1
  have g6 : w.heap.size ≤ b6 := by omega
  have q30 : W0.cell? ⟨b3, 0, none⟩ = some (.int .i64 st) := (blk_cell k3 0).trans rfl
  have q31 : W0.cell? ⟨b3, 1, none⟩ = some (.string d) := (blk_cell k3 1).trans rfl
  rw [hb3]
  replace g6 := Aside0.mk g6
  replace hB0 := Aside0.mk hB0
  replace k3 := Aside0.mk k3
  replace k5 := Aside0.mk k5
  replace k6 := Aside0.mk k6
  clear hW0 hb6 hb5
  replace hb3 := Aside0.mk hb3
  have errE : ∀ (W : World) (a : Act) (rr : Int), r1 = 0 → r2 = ⟨#[]⟩ → r3 = [] → r4 = rr → W.heap[b6]? = some (.cells #[.int .i64 0, .string ⟨#[]⟩] 45 (0, 0)) → Below w.heap.size w W → a.tmps[6]? = some (.pointer (some ⟨b6, 0, none⟩)) → a.tmps[7]? = some (.slice none 0 0) → a.tmps[8]? = some (.int .i64 rr) → a.defers = [] →
      bodyPost Tryd.prog Tryd.f24 (fun e w' => ∃ v2_, e = .returned (.tuple #[.agg #[.int .i64 r1, .string r2], v2_, .int .i64 r4]) ∧ Kd.R k62 62 w' w.heap.size (fun _ => True) v2_ r3 ∧ Below w.heap.size w w') Exit.ret a ((W.setCell ⟨b6, 0, none⟩ (.int .i64 0)).setCell ⟨b6, 1, none⟩ (.string ⟨#[]⟩)) := by
    rintro W a rr rfl rfl rfl rfl hk hB h6 h7 h8 hd
    exact step_end (blk_put (blk_put hk 0 (.int .i64 0) rfl) 1 (.string ⟨#[]⟩) rfl) h6 h7 h8 hd ⟨_, rfl, Kd.R_nil _ _ _ _ _, below_set (below_set hB g6.out) g6.out⟩
  replace errE := Aside0.mk errE
  by_cases hrc : rc = 0
  · subst hrc
    rw [if_neg (by simp)] at h
    go_upto_region 4 with (first | (go_at_call 27; refine (origin_Check.calls k st d A1 c1 l1 0 _ (Kd.C_below HR1.out hB0.out) HC1.out hK.out).mono ?_; rintro e W1 ⟨rfl, hB1⟩; replace k3 := Aside0.mk (blk_below k3.out hB1); replace k5 := Aside0.mk (blk_below k5.out hB1); replace k6 := Aside0.mk (blk_below k6.out hB1); replace hB0 := Aside0.mk (below_step hB0.out hB1); clear hB1 q30 q31; have e30 : W1.cell? ⟨b3, 0, none⟩ = some (.int .i64 st) := (blk_cell k3.out 0).trans rfl; have e31 : W1.cell? ⟨b3, 1, none⟩ = some (.string d) := (blk_cell k3.out 1).trans rfl; have e50 : W1.cell? ⟨b5, 0, none⟩ = some (.int .i64 ek) := (blk_cell k5.out 0).trans rfl; have e51 : W1.cell? ⟨b5, 1, none⟩ = some (.int .i64 ec) := (blk_cell k5.out 1).trans rfl; have e52 : W1.cell? ⟨b5, 2, none⟩ = some (.int .u8 ed) := (blk_cell k5.out 2).trans rfl; have e60 : W1.cell? ⟨b6, 0, none⟩ = some (.int .i64 0) := (blk_cell k6.out 0).trans rfl; have e61 : W1.cell? ⟨b6, 1, none⟩ = some (.string ⟨#[]⟩) := (blk_cell k6.out 1).trans rfl; have f60 : W1.frozen? ⟨b6, 0, none⟩ = false := blk_frozen k6.out 0; have f61 : W1.frozen? ⟨b6, 1, none⟩ = false := blk_frozen k6.out 1))
    by_cases h1 : ek < 1
    · have hb : badE ek ec ed = true := by unfold badE; rw [decide_eq_true h1]; rfl
      rw [if_pos hb] at h
      simp only [Option.some.injEq, Prod.mk.injEq] at h
      obtain ⟨rfl, rfl, rfl, rfl⟩ := h
      clear hb
      have d1 : decide (ek < 1) = true := decide_eq_true h1
      clear h1
      go_wp2
      exact errE.out _ _ _ (by first | trivial | rfl) (by first | trivial | rfl) (by first | trivial | rfl) (by first | trivial | rfl) k6.out hB0.out rfl rfl rfl rfl
    have d1 : decide (ek < 1) = false := decide_eq_false h1
    by_cases h2 : 12 < ek
    · have hb : badE ek ec ed = true := by unfold badE; rw [decide_eq_true h2]; simp
      rw [if_pos hb] at h
      simp only [Option.some.injEq, Prod.mk.injEq] at h
      obtain ⟨rfl, rfl, rfl, rfl⟩ := h
      clear hb
      have d2 : decide (12 < ek) = true := decide_eq_true h2
      clear h1 h2
      go_wp2
      exact errE.out _ _ _ (by first | trivial | rfl) (by first | trivial | rfl) (by first | trivial | rfl) (by first | trivial | rfl) k6.out hB0.out rfl rfl rfl rfl
    have d2 : decide (12 < ek) = false := decide_eq_false h2
    by_cases h3 : ek = 3
    · subst h3
      by_cases h4 : ed < 48
      · have hb : badE 3 ec ed = true := by unfold badE; rw [decide_eq_true h4]; rfl
        rw [if_pos hb] at h
        simp only [Option.some.injEq, Prod.mk.injEq] at h
        obtain ⟨rfl, rfl, rfl, rfl⟩ := h
        clear hb
        have d4 : decide (ed < 48) = true := decide_eq_true h4
        clear h4 h1 h2 d1 d2
        go_wp2
        exact errE.out _ _ _ (by first | trivial | rfl) (by first | trivial | rfl) (by first | trivial | rfl) (by first | trivial | rfl) k6.out hB0.out rfl rfl rfl rfl
      have d4 : decide (ed < 48) = false := decide_eq_false h4
      by_cases h5 : 57 < ed
      · have hb : badE 3 ec ed = true := by unfold badE; rw [decide_eq_true h5, d4]; rfl
        rw [if_pos hb] at h
        simp only [Option.some.injEq, Prod.mk.injEq] at h
        obtain ⟨rfl, rfl, rfl, rfl⟩ := h
        clear hb
        have d5 : decide (57 < ed) = true := decide_eq_true h5
        clear h4 h5 h1 h2 d1 d2
        go_wp2
        exact errE.out _ _ _ (by first | trivial | rfl) (by first | trivial | rfl) (by first | trivial | rfl) (by first | trivial | rfl) k6.out hB0.out rfl rfl rfl rfl
      have d5 : decide (57 < ed) = false := decide_eq_false h5
      clear h4 h5 h1 h2 d1 d2
      have hb : badE 3 ec ed = false := by unfold badE; rw [d4, d5]; rfl
      rw [if_neg (by rw [hb]; decide)] at h
      by_cases hst : 0 ≤ st ∧ st ≤ 5
      · rw [if_pos hst] at h
        replace hst := Aside0.mk hst
        have hk1 := Aside0.mk (show (1 : Int) ≤ 3 by omega)
        have hk2 := Aside0.mk (show 3 ≤ (12 : Int) by omega)
        clear hb
        cases ht : tabI st 3 with
        | none =>
          rw [ht] at h
          simp only [Option.some.injEq, Prod.mk.injEq] at h
          obtain ⟨rfl, rfl, rfl, rfl⟩ := h
          replace ht := Aside0.mk ht
          go_upto_region 8 with (fail)
          go_region_held3 (fun W => W.cell? ⟨b3, 0, none⟩ = some (.int .i64 st) ∧ W.cell? ⟨b5, 0, none⟩ = some (.int .i64 3)) (go_keep) (first | (go_at_call 51; refine (Table_in' _).mono ?_; rintro e W2 ⟨bt, rfl, hTM, hB1⟩; have hlk := Tab_look' hTM st 3 hst.out.1 hst.out.2 hk1.out hk2.out; rw [ht.out] at hlk; dsimp only [Option.isSome] at hlk; replace k3 := Aside0.mk (blk_below (blk_drew k3.out) hB1); replace k5 := Aside0.mk (blk_below (blk_drew k5.out) hB1); replace k6 := Aside0.mk (blk_below (blk_drew k6.out) hB1); replace hB0 := Aside0.mk (below_step (below_drew1 hB0.out) hB1); clear hTM hB1 e30 e31 e50 e51 e52 e60 e61 f60 f61; have e30 : W2.cell? ⟨b3, 0, none⟩ = some (.int .i64 st) := (blk_cell k3.out 0).trans rfl; have e31 : W2.cell? ⟨b3, 1, none⟩ = some (.string d) := (blk_cell k3.out 1).trans rfl; have e50 : W2.cell? ⟨b5, 0, none⟩ = some (.int .i64 3) := (blk_cell k5.out 0).trans rfl; have e51 : W2.cell? ⟨b5, 1, none⟩ = some (.int .i64 ec) := (blk_cell k5.out 1).trans rfl; have e52 : W2.cell? ⟨b5, 2, none⟩ = some (.int .u8 ed) := (blk_cell k5.out 2).trans rfl; have e60 : W2.cell? ⟨b6, 0, none⟩ = some (.int .i64 0) := (blk_cell k6.out 0).trans rfl; have e61 : W2.cell? ⟨b6, 1, none⟩ = some (.string ⟨#[]⟩) := (blk_cell k6.out 1).trans rfl; have f60 : W2.frozen? ⟨b6, 0, none⟩ = false := blk_frozen k6.out 0; have f61 : W2.frozen? ⟨b6, 1, none⟩ = false := blk_frozen k6.out 1))
          go_wp2
          exact errE.out _ _ _ (by first | trivial | rfl) (by first | trivial | rfl) (by first | trivial | rfl) (by first | trivial | rfl) k6.out hB0.out rfl rfl rfl rfl
        | some f =>
          rw [ht] at h
          simp only at h
          obtain ⟨o, hM, h⟩ := Option.bind_eq_some_iff.1 h
          simp only [Option.some.injEq, Prod.mk.injEq] at h
          obtain ⟨rfl, rfl, rfl, rfl⟩ := h
          replace ht := Aside0.mk ht
          replace hM := Aside0.mk hM
          go_upto_region 8 with (fail)
          go_region_held3 (fun W => W.cell? ⟨b3, 0, none⟩ = some (.int .i64 st) ∧ W.cell? ⟨b5, 0, none⟩ = some (.int .i64 3)) (go_keep) (first | (go_at_call 51; refine (Table_in' _).mono ?_; rintro e W2 ⟨bt, rfl, hTM, hB1⟩; have hlk := Tab_look' hTM st 3 hst.out.1 hst.out.2 hk1.out hk2.out; rw [ht.out] at hlk; dsimp only [Option.isSome] at hlk; replace k3 := Aside0.mk (blk_below (blk_drew k3.out) hB1); replace k5 := Aside0.mk (blk_below (blk_drew k5.out) hB1); replace k6 := Aside0.mk (blk_below (blk_drew k6.out) hB1); replace hB0 := Aside0.mk (below_step (below_drew1 hB0.out) hB1); clear hTM hB1 e30 e31 e50 e51 e52 e60 e61 f60 f61; have e30 : W2.cell? ⟨b3, 0, none⟩ = some (.int .i64 st) := (blk_cell k3.out 0).trans rfl; have e31 : W2.cell? ⟨b3, 1, none⟩ = some (.string d) := (blk_cell k3.out 1).trans rfl; have e50 : W2.cell? ⟨b5, 0, none⟩ = some (.int .i64 3) := (blk_cell k5.out 0).trans rfl; have e51 : W2.cell? ⟨b5, 1, none⟩ = some (.int .i64 ec) := (blk_cell k5.out 1).trans rfl; have e52 : W2.cell? ⟨b5, 2, none⟩ = some (.int .u8 ed) := (blk_cell k5.out 2).trans rfl; have e60 : W2.cell? ⟨b6, 0, none⟩ = some (.int .i64 0) := (blk_cell k6.out 0).trans rfl; have e61 : W2.cell? ⟨b6, 1, none⟩ = some (.string ⟨#[]⟩) := (blk_cell k6.out 1).trans rfl; have f60 : W2.frozen? ⟨b6, 0, none⟩ = false := blk_frozen k6.out 0; have f61 : W2.frozen? ⟨b6, 1, none⟩ = false := blk_frozen k6.out 1))
          go_upto_region 12 with (fail)
          obtain ⟨W3, hW3⟩ : ∃ W3, W2.alloc (.cells #[.int .i64 st, .string d, .slice A1 l1.length c1, .int .i64 3, .int .i64 ec, .int .u8 ed, .slice none 0 0] 99) = W3 := ⟨_, rfl⟩
          rw [hW3]
          have hC3 : Cl W2 W2.heap.size A1 l1.length c1 3 ec ed W3 st d [] := ⟨.slice none 0 0, by rw [← hW3]; exact blk_new _ _, Kd.R_nil _ _ _ _ _, by rw [← hW3]; exact below_alloc (Below.refl _ _) _, Nat.le_refl _⟩
          have hne : b6 ≠ W2.heap.size := Nat.ne_of_lt (blk_lt k6.out)
          obtain ⟨c, hc⟩ : ∃ c, W2.heap.size = c := ⟨_, rfl⟩
          have hC3' : Cl W2 c A1 l1.length c1 3 ec ed W3 st d [] := by rw [← hc]; exact hC3
          rw [hc] at hne ⊢
          obtain ⟨⟨fn, hf, hn, hbd⟩, hcall⟩ := Meth_in k W2 c A1 c1 l1 (Kd.C_below HR1.out hB0.out) HC1.out 3 ec ed W3 st d hC3' f ht.out o hM.out
          replace hcall := Aside0.mk hcall
          replace hf := Aside0.mk hf
          replace hn := Aside0.mk hn
          replace hbd := Aside0.mk hbd
          replace hc := Aside0.mk hc
          clear hW3 hC3 hC3' e30 e31 e50 e51 e52 e60 e61 f60 f61 hlk k3 k5
          go_upto_region 13 with (fail)
          rw [enters_ hf.out hn.out hbd.out, Oper.upon_enter]
          refine hcall.out.mono ?_
          rintro e W4 ⟨rfl, v, h1, h2, h3, h4⟩
          have e0 : W4.cell? ⟨c, 0, none⟩ = some (.int .i64 o.1) := (blk_cell h1 0).trans rfl
          have e1 : W4.cell? ⟨c, 1, none⟩ = some (.string o.2.1) := (blk_cell h1 1).trans rfl
          have e6 : W4.cell? ⟨c, 6, none⟩ = some v := (blk_cell h1 6).trans rfl
          have k64 := blk_below k6.out h3
          have e60 : W4.cell? ⟨b6, 0, none⟩ = some (.int .i64 0) := (blk_cell k64 0).trans rfl
          have e61 : W4.cell? ⟨b6, 1, none⟩ = some (.string ⟨#[]⟩) := (blk_cell k64 1).trans rfl
          have f60 : W4.frozen? ⟨b6, 0, none⟩ = false := blk_frozen k64 0
          have f61 : W4.frozen? ⟨b6, 1, none⟩ = false := blk_frozen k64 1
          have hBw := Aside0.mk (below_step hB0.out h3)
          replace h2 := Aside0.mk (Kd.R_lower h2 (below_size hB0.out))
          replace k64 := Aside0.mk k64
          clear h1 h3 h4
          go_upto_region 13 with (fail)
          go_region_held3 (fun W => W.cell? ⟨c, 0, none⟩ = some (.int .i64 o.1) ∧ W.cell? ⟨c, 1, none⟩ = some (.string o.2.1) ∧ W.cell? ⟨c, 6, none⟩ = some v) (go_keep) (fail)
          go_wp2
          exact step_end (blk_put (blk_put (blk_drew k64.out) 0 (.int .i64 o.1) rfl) 1 (.string o.2.1) rfl) rfl rfl rfl rfl ⟨v, rfl, Kd.R_set (Kd.R_set (Kd.R_drew h2.out) (blk_drew k64.out) (by decide) 0 _) (blk_put (blk_drew k64.out) 0 (.int .i64 o.1) rfl) (by decide) 1 _, below_set (below_set (below_drew1 hBw.out) g6.out) g6.out⟩
      · rw [if_neg hst] at h
        cases h
    by_cases h9 : ek = 9
    · subst h9
      by_cases h4 : ec < 1
      · have hb : badE 9 ec ed = true := by unfold badE; rw [decide_eq_true h4]; rfl
        rw [if_pos hb] at h
        simp only [Option.some.injEq, Prod.mk.injEq] at h
        obtain ⟨rfl, rfl, rfl, rfl⟩ := h
        clear hb
        have d4 : decide (ec < 1) = true := decide_eq_true h4
        clear h4 h1 h2 h3 d1 d2
        go_wp2
        exact errE.out _ _ _ (by first | trivial | rfl) (by first | trivial | rfl) (by first | trivial | rfl) (by first | trivial | rfl) k6.out hB0.out rfl rfl rfl rfl
      have d4 : decide (ec < 1) = false := decide_eq_false h4
      by_cases h5 : 127 < ec
      · have hb : badE 9 ec ed = true := by unfold badE; rw [decide_eq_true h5, d4]; rfl
        rw [if_pos hb] at h
        simp only [Option.some.injEq, Prod.mk.injEq] at h
        obtain ⟨rfl, rfl, rfl, rfl⟩ := h
        clear hb
        have d5 : decide (127 < ec) = true := decide_eq_true h5
        clear h4 h5 h1 h2 h3 d1 d2
        go_wp2
        exact errE.out _ _ _ (by first | trivial | rfl) (by first | trivial | rfl) (by first | trivial | rfl) (by first | trivial | rfl) k6.out hB0.out rfl rfl rfl rfl
      have d5 : decide (127 < ec) = false := decide_eq_false h5
      clear h4 h5 h1 h2 h3 d1 d2
      have hb : badE 9 ec ed = false := by unfold badE; rw [d4, d5]; rfl
      rw [if_neg (by rw [hb]; decide)] at h
      by_cases hst : 0 ≤ st ∧ st ≤ 5
      · rw [if_pos hst] at h
        replace hst := Aside0.mk hst
        have hk1 := Aside0.mk (show (1 : Int) ≤ 9 by omega)
        have hk2 := Aside0.mk (show 9 ≤ (12 : Int) by omega)
        clear hb
        cases ht : tabI st 9 with
        | none =>
          rw [ht] at h
          simp only [Option.some.injEq, Prod.mk.injEq] at h
          obtain ⟨rfl, rfl, rfl, rfl⟩ := h
          replace ht := Aside0.mk ht
          go_upto_region 8 with (fail)
          go_region_held3 (fun W => W.cell? ⟨b3, 0, none⟩ = some (.int .i64 st) ∧ W.cell? ⟨b5, 0, none⟩ = some (.int .i64 9)) (go_keep) (first | (go_at_call 51; refine (Table_in' _).mono ?_; rintro e W2 ⟨bt, rfl, hTM, hB1⟩; have hlk := Tab_look' hTM st 9 hst.out.1 hst.out.2 hk1.out hk2.out; rw [ht.out] at hlk; dsimp only [Option.isSome] at hlk; replace k3 := Aside0.mk (blk_below (blk_drew k3.out) hB1); replace k5 := Aside0.mk (blk_below (blk_drew k5.out) hB1); replace k6 := Aside0.mk (blk_below (blk_drew k6.out) hB1); replace hB0 := Aside0.mk (below_step (below_drew1 hB0.out) hB1); clear hTM hB1 e30 e31 e50 e51 e52 e60 e61 f60 f61; have e30 : W2.cell? ⟨b3, 0, none⟩ = some (.int .i64 st) := (blk_cell k3.out 0).trans rfl; have e31 : W2.cell? ⟨b3, 1, none⟩ = some (.string d) := (blk_cell k3.out 1).trans rfl; have e50 : W2.cell? ⟨b5, 0, none⟩ = some (.int .i64 9) := (blk_cell k5.out 0).trans rfl; have e51 : W2.cell? ⟨b5, 1, none⟩ = some (.int .i64 ec) := (blk_cell k5.out 1).trans rfl; have e52 : W2.cell? ⟨b5, 2, none⟩ = some (.int .u8 ed) := (blk_cell k5.out 2).trans rfl; have e60 : W2.cell? ⟨b6, 0, none⟩ = some (.int .i64 0) := (blk_cell k6.out 0).trans rfl; have e61 : W2.cell? ⟨b6, 1, none⟩ = some (.string ⟨#[]⟩) := (blk_cell k6.out 1).trans rfl; have f60 : W2.frozen? ⟨b6, 0, none⟩ = false := blk_frozen k6.out 0; have f61 : W2.frozen? ⟨b6, 1, none⟩ = false := blk_frozen k6.out 1))
          go_wp2
          exact errE.out _ _ _ (by first | trivial | rfl) (by first | trivial | rfl) (by first | trivial | rfl) (by first | trivial | rfl) k6.out hB0.out rfl rfl rfl rfl
        | some f =>
          rw [ht] at h
          simp only at h
          obtain ⟨o, hM, h⟩ := Option.bind_eq_some_iff.1 h
          simp only [Option.some.injEq, Prod.mk.injEq] at h
          obtain ⟨rfl, rfl, rfl, rfl⟩ := h
          replace ht := Aside0.mk ht
          replace hM := Aside0.mk hM
          go_upto_region 8 with (fail)
          go_region_held3 (fun W => W.cell? ⟨b3, 0, none⟩ = some (.int .i64 st) ∧ W.cell? ⟨b5, 0, none⟩ = some (.int .i64 9)) (go_keep) (first | (go_at_call 51; refine (Table_in' _).mono ?_; rintro e W2 ⟨bt, rfl, hTM, hB1⟩; have hlk := Tab_look' hTM st 9 hst.out.1 hst.out.2 hk1.out hk2.out; rw [ht.out] at hlk; dsimp only [Option.isSome] at hlk; replace k3 := Aside0.mk (blk_below (blk_drew k3.out) hB1); replace k5 := Aside0.mk (blk_below (blk_drew k5.out) hB1); replace k6 := Aside0.mk (blk_below (blk_drew k6.out) hB1); replace hB0 := Aside0.mk (below_step (below_drew1 hB0.out) hB1); clear hTM hB1 e30 e31 e50 e51 e52 e60 e61 f60 f61; have e30 : W2.cell? ⟨b3, 0, none⟩ = some (.int .i64 st) := (blk_cell k3.out 0).trans rfl; have e31 : W2.cell? ⟨b3, 1, none⟩ = some (.string d) := (blk_cell k3.out 1).trans rfl; have e50 : W2.cell? ⟨b5, 0, none⟩ = some (.int .i64 9) := (blk_cell k5.out 0).trans rfl; have e51 : W2.cell? ⟨b5, 1, none⟩ = some (.int .i64 ec) := (blk_cell k5.out 1).trans rfl; have e52 : W2.cell? ⟨b5, 2, none⟩ = some (.int .u8 ed) := (blk_cell k5.out 2).trans rfl; have e60 : W2.cell? ⟨b6, 0, none⟩ = some (.int .i64 0) := (blk_cell k6.out 0).trans rfl; have e61 : W2.cell? ⟨b6, 1, none⟩ = some (.string ⟨#[]⟩) := (blk_cell k6.out 1).trans rfl; have f60 : W2.frozen? ⟨b6, 0, none⟩ = false := blk_frozen k6.out 0; have f61 : W2.frozen? ⟨b6, 1, none⟩ = false := blk_frozen k6.out 1))
          go_upto_region 12 with (fail)
          obtain ⟨W3, hW3⟩ : ∃ W3, W2.alloc (.cells #[.int .i64 st, .string d, .slice A1 l1.length c1, .int .i64 9, .int .i64 ec, .int .u8 ed, .slice none 0 0] 99) = W3 := ⟨_, rfl⟩
          rw [hW3]
          have hC3 : Cl W2 W2.heap.size A1 l1.length c1 9 ec ed W3 st d [] := ⟨.slice none 0 0, by rw [← hW3]; exact blk_new _ _, Kd.R_nil _ _ _ _ _, by rw [← hW3]; exact below_alloc (Below.refl _ _) _, Nat.le_refl _⟩
          have hne : b6 ≠ W2.heap.size := Nat.ne_of_lt (blk_lt k6.out)
          obtain ⟨c, hc⟩ : ∃ c, W2.heap.size = c := ⟨_, rfl⟩
          have hC3' : Cl W2 c A1 l1.length c1 9 ec ed W3 st d [] := by rw [← hc]; exact hC3
          rw [hc] at hne ⊢
          obtain ⟨⟨fn, hf, hn, hbd⟩, hcall⟩ := Meth_in k W2 c A1 c1 l1 (Kd.C_below HR1.out hB0.out) HC1.out 9 ec ed W3 st d hC3' f ht.out o hM.out
          replace hcall := Aside0.mk hcall
          replace hf := Aside0.mk hf
          replace hn := Aside0.mk hn
          replace hbd := Aside0.mk hbd
          replace hc := Aside0.mk hc
          clear hW3 hC3 hC3' e30 e31 e50 e51 e52 e60 e61 f60 f61 hlk k3 k5
          go_upto_region 13 with (fail)
          rw [enters_ hf.out hn.out hbd.out, Oper.upon_enter]
          refine hcall.out.mono ?_
          rintro e W4 ⟨rfl, v, h1, h2, h3, h4⟩
          have e0 : W4.cell? ⟨c, 0, none⟩ = some (.int .i64 o.1) := (blk_cell h1 0).trans rfl
          have e1 : W4.cell? ⟨c, 1, none⟩ = some (.string o.2.1) := (blk_cell h1 1).trans rfl
          have e6 : W4.cell? ⟨c, 6, none⟩ = some v := (blk_cell h1 6).trans rfl
          have k64 := blk_below k6.out h3
          have e60 : W4.cell? ⟨b6, 0, none⟩ = some (.int .i64 0) := (blk_cell k64 0).trans rfl
          have e61 : W4.cell? ⟨b6, 1, none⟩ = some (.string ⟨#[]⟩) := (blk_cell k64 1).trans rfl
          have f60 : W4.frozen? ⟨b6, 0, none⟩ = false := blk_frozen k64 0
          have f61 : W4.frozen? ⟨b6, 1, none⟩ = false := blk_frozen k64 1
          have hBw := Aside0.mk (below_step hB0.out h3)
          replace h2 := Aside0.mk (Kd.R_lower h2 (below_size hB0.out))
          replace k64 := Aside0.mk k64
          clear h1 h3 h4
          go_upto_region 13 with (fail)
          go_region_held3 (fun W => W.cell? ⟨c, 0, none⟩ = some (.int .i64 o.1) ∧ W.cell? ⟨c, 1, none⟩ = some (.string o.2.1) ∧ W.cell? ⟨c, 6, none⟩ = some v) (go_keep) (fail)
          go_wp2
          exact step_end (blk_put (blk_put (blk_drew k64.out) 0 (.int .i64 o.1) rfl) 1 (.string o.2.1) rfl) rfl rfl rfl rfl ⟨v, rfl, Kd.R_set (Kd.R_set (Kd.R_drew h2.out) (blk_drew k64.out) (by decide) 0 _) (blk_put (blk_drew k64.out) 0 (.int .i64 o.1) rfl) (by decide) 1 _, below_set (below_set (below_drew1 hBw.out) g6.out) g6.out⟩
      · rw [if_neg hst] at h
        cases h
    have d3 : (ek == 3) = false := beq_eq_false_iff_ne.2 h3
    have d9 : (ek == 9) = false := beq_eq_false_iff_ne.2 h9
    have dd3 : decide (ek = 3) = false := decide_eq_false h3
    have dd9 : decide (ek = 9) = false := decide_eq_false h9
    have hb : badE ek ec ed = false := by unfold badE; rw [d1, d2, dd3, dd9]; rfl
    rw [if_neg (by rw [hb]; decide)] at h
    by_cases hst : 0 ≤ st ∧ st ≤ 5
    · rw [if_pos hst] at h
      replace hst := Aside0.mk hst
      have hk1 := Aside0.mk (show (1 : Int) ≤ ek by omega)
      have hk2 := Aside0.mk (show ek ≤ (12 : Int) by omega)
      clear hb h1 h2 h3 h9
      cases ht : tabI st ek with
      | none =>
        rw [ht] at h
        simp only [Option.some.injEq, Prod.mk.injEq] at h
        obtain ⟨rfl, rfl, rfl, rfl⟩ := h
        replace ht := Aside0.mk ht
        go_upto_region 8 with (fail)
        go_region_held3 (fun W => W.cell? ⟨b3, 0, none⟩ = some (.int .i64 st) ∧ W.cell? ⟨b5, 0, none⟩ = some (.int .i64 ek)) (go_keep) (first | (go_at_call 51; refine (Table_in' _).mono ?_; rintro e W2 ⟨bt, rfl, hTM, hB1⟩; have hlk := Tab_look' hTM st ek hst.out.1 hst.out.2 hk1.out hk2.out; rw [ht.out] at hlk; dsimp only [Option.isSome] at hlk; replace k3 := Aside0.mk (blk_below (blk_drew k3.out) hB1); replace k5 := Aside0.mk (blk_below (blk_drew k5.out) hB1); replace k6 := Aside0.mk (blk_below (blk_drew k6.out) hB1); replace hB0 := Aside0.mk (below_step (below_drew1 hB0.out) hB1); clear hTM hB1 e30 e31 e50 e51 e52 e60 e61 f60 f61; have e30 : W2.cell? ⟨b3, 0, none⟩ = some (.int .i64 st) := (blk_cell k3.out 0).trans rfl; have e31 : W2.cell? ⟨b3, 1, none⟩ = some (.string d) := (blk_cell k3.out 1).trans rfl; have e50 : W2.cell? ⟨b5, 0, none⟩ = some (.int .i64 ek) := (blk_cell k5.out 0).trans rfl; have e51 : W2.cell? ⟨b5, 1, none⟩ = some (.int .i64 ec) := (blk_cell k5.out 1).trans rfl; have e52 : W2.cell? ⟨b5, 2, none⟩ = some (.int .u8 ed) := (blk_cell k5.out 2).trans rfl; have e60 : W2.cell? ⟨b6, 0, none⟩ = some (.int .i64 0) := (blk_cell k6.out 0).trans rfl; have e61 : W2.cell? ⟨b6, 1, none⟩ = some (.string ⟨#[]⟩) := (blk_cell k6.out 1).trans rfl; have f60 : W2.frozen? ⟨b6, 0, none⟩ = false := blk_frozen k6.out 0; have f61 : W2.frozen? ⟨b6, 1, none⟩ = false := blk_frozen k6.out 1))
        go_wp2
        exact errE.out _ _ _ (by first | trivial | rfl) (by first | trivial | rfl) (by first | trivial | rfl) (by first | trivial | rfl) k6.out hB0.out rfl rfl rfl rfl
      | some f =>
        rw [ht] at h
        simp only at h
        obtain ⟨o, hM, h⟩ := Option.bind_eq_some_iff.1 h
        simp only [Option.some.injEq, Prod.mk.injEq] at h
        obtain ⟨rfl, rfl, rfl, rfl⟩ := h
        replace ht := Aside0.mk ht
        replace hM := Aside0.mk hM
        go_upto_region 8 with (fail)
        go_region_held3 (fun W => W.cell? ⟨b3, 0, none⟩ = some (.int .i64 st) ∧ W.cell? ⟨b5, 0, none⟩ = some (.int .i64 ek)) (go_keep) (first | (go_at_call 51; refine (Table_in' _).mono ?_; rintro e W2 ⟨bt, rfl, hTM, hB1⟩; have hlk := Tab_look' hTM st ek hst.out.1 hst.out.2 hk1.out hk2.out; rw [ht.out] at hlk; dsimp only [Option.isSome] at hlk; replace k3 := Aside0.mk (blk_below (blk_drew k3.out) hB1); replace k5 := Aside0.mk (blk_below (blk_drew k5.out) hB1); replace k6 := Aside0.mk (blk_below (blk_drew k6.out) hB1); replace hB0 := Aside0.mk (below_step (below_drew1 hB0.out) hB1); clear hTM hB1 e30 e31 e50 e51 e52 e60 e61 f60 f61; have e30 : W2.cell? ⟨b3, 0, none⟩ = some (.int .i64 st) := (blk_cell k3.out 0).trans rfl; have e31 : W2.cell? ⟨b3, 1, none⟩ = some (.string d) := (blk_cell k3.out 1).trans rfl; have e50 : W2.cell? ⟨b5, 0, none⟩ = some (.int .i64 ek) := (blk_cell k5.out 0).trans rfl; have e51 : W2.cell? ⟨b5, 1, none⟩ = some (.int .i64 ec) := (blk_cell k5.out 1).trans rfl; have e52 : W2.cell? ⟨b5, 2, none⟩ = some (.int .u8 ed) := (blk_cell k5.out 2).trans rfl; have e60 : W2.cell? ⟨b6, 0, none⟩ = some (.int .i64 0) := (blk_cell k6.out 0).trans rfl; have e61 : W2.cell? ⟨b6, 1, none⟩ = some (.string ⟨#[]⟩) := (blk_cell k6.out 1).trans rfl; have f60 : W2.frozen? ⟨b6, 0, none⟩ = false := blk_frozen k6.out 0; have f61 : W2.frozen? ⟨b6, 1, none⟩ = false := blk_frozen k6.out 1))
        go_upto_region 12 with (fail)
        obtain ⟨W3, hW3⟩ : ∃ W3, W2.alloc (.cells #[.int .i64 st, .string d, .slice A1 l1.length c1, .int .i64 ek, .int .i64 ec, .int .u8 ed, .slice none 0 0] 99) = W3 := ⟨_, rfl⟩
        rw [hW3]
        have hC3 : Cl W2 W2.heap.size A1 l1.length c1 ek ec ed W3 st d [] := ⟨.slice none 0 0, by rw [← hW3]; exact blk_new _ _, Kd.R_nil _ _ _ _ _, by rw [← hW3]; exact below_alloc (Below.refl _ _) _, Nat.le_refl _⟩
        have hne : b6 ≠ W2.heap.size := Nat.ne_of_lt (blk_lt k6.out)
        obtain ⟨c, hc⟩ : ∃ c, W2.heap.size = c := ⟨_, rfl⟩
        have hC3' : Cl W2 c A1 l1.length c1 ek ec ed W3 st d [] := by rw [← hc]; exact hC3
        rw [hc] at hne ⊢
        obtain ⟨⟨fn, hf, hn, hbd⟩, hcall⟩ := Meth_in k W2 c A1 c1 l1 (Kd.C_below HR1.out hB0.out) HC1.out ek ec ed W3 st d hC3' f ht.out o hM.out
        replace hcall := Aside0.mk hcall
        replace hf := Aside0.mk hf
        replace hn := Aside0.mk hn
        replace hbd := Aside0.mk hbd
        replace hc := Aside0.mk hc
        clear hW3 hC3 hC3' e30 e31 e50 e51 e52 e60 e61 f60 f61 hlk k3 k5
        go_upto_region 13 with (fail)
        rw [enters_ hf.out hn.out hbd.out, Oper.upon_enter]
        refine hcall.out.mono ?_
        rintro e W4 ⟨rfl, v, h1, h2, h3, h4⟩
        have e0 : W4.cell? ⟨c, 0, none⟩ = some (.int .i64 o.1) := (blk_cell h1 0).trans rfl
        have e1 : W4.cell? ⟨c, 1, none⟩ = some (.string o.2.1) := (blk_cell h1 1).trans rfl
        have e6 : W4.cell? ⟨c, 6, none⟩ = some v := (blk_cell h1 6).trans rfl
        have k64 := blk_below k6.out h3
        have e60 : W4.cell? ⟨b6, 0, none⟩ = some (.int .i64 0) := (blk_cell k64 0).trans rfl
        have e61 : W4.cell? ⟨b6, 1, none⟩ = some (.string ⟨#[]⟩) := (blk_cell k64 1).trans rfl
        have f60 : W4.frozen? ⟨b6, 0, none⟩ = false := blk_frozen k64 0
        have f61 : W4.frozen? ⟨b6, 1, none⟩ = false := blk_frozen k64 1
        have hBw := Aside0.mk (below_step hB0.out h3)
        replace h2 := Aside0.mk (Kd.R_lower h2 (below_size hB0.out))
        replace k64 := Aside0.mk k64
        clear h1 h3 h4
        go_upto_region 13 with (fail)
        go_region_held3 (fun W => W.cell? ⟨c, 0, none⟩ = some (.int .i64 o.1) ∧ W.cell? ⟨c, 1, none⟩ = some (.string o.2.1) ∧ W.cell? ⟨c, 6, none⟩ = some v) (go_keep) (fail)
        go_wp2
        exact step_end (blk_put (blk_put (blk_drew k64.out) 0 (.int .i64 o.1) rfl) 1 (.string o.2.1) rfl) rfl rfl rfl rfl ⟨v, rfl, Kd.R_set (Kd.R_set (Kd.R_drew h2.out) (blk_drew k64.out) (by decide) 0 _) (blk_put (blk_drew k64.out) 0 (.int .i64 o.1) rfl) (by decide) 1 _, below_set (below_set (below_drew1 hBw.out) g6.out) g6.out⟩
    · rw [if_neg hst] at h
      cases h
  · rw [if_pos hrc] at h
    simp only [Option.some.injEq, Prod.mk.injEq] at h
    obtain ⟨rfl, rfl, rfl, rfl⟩ := h
    have hrn : (rc != 0) = true := bne_iff_ne.2 hrc
    have hre : (rc == 0) = false := beq_eq_false_iff_ne.2 hrc
    have hrd : decide (rc = 0) = false := decide_eq_false hrc
    clear hrc
    go_wp2_with (first | (go_at_call 27; refine (origin_Check.calls k st d A1 c1 l1 rc _ (Kd.C_below HR1.out hB0.out) HC1.out hK.out).mono ?_; rintro e W1 ⟨rfl, hB1⟩; replace k3 := Aside0.mk (blk_below k3.out hB1); replace k5 := Aside0.mk (blk_below k5.out hB1); replace k6 := Aside0.mk (blk_below k6.out hB1); replace hB0 := Aside0.mk (below_step hB0.out hB1); clear hB1 q30 q31; have e30 : W1.cell? ⟨b3, 0, none⟩ = some (.int .i64 st) := (blk_cell k3.out 0).trans rfl; have e31 : W1.cell? ⟨b3, 1, none⟩ = some (.string d) := (blk_cell k3.out 1).trans rfl; have e50 : W1.cell? ⟨b5, 0, none⟩ = some (.int .i64 ek) := (blk_cell k5.out 0).trans rfl; have e51 : W1.cell? ⟨b5, 1, none⟩ = some (.int .i64 ec) := (blk_cell k5.out 1).trans rfl; have e52 : W1.cell? ⟨b5, 2, none⟩ = some (.int .u8 ed) := (blk_cell k5.out 2).trans rfl; have e60 : W1.cell? ⟨b6, 0, none⟩ = some (.int .i64 0) := (blk_cell k6.out 0).trans rfl; have e61 : W1.cell? ⟨b6, 1, none⟩ = some (.string ⟨#[]⟩) := (blk_cell k6.out 1).trans rfl; have f60 : W1.frozen? ⟨b6, 0, none⟩ = false := blk_frozen k6.out 0; have f61 : W1.frozen? ⟨b6, 1, none⟩ = false := blk_frozen k6.out 1))
    exact errE.out _ _ _ (by first | trivial | rfl) (by first | trivial | rfl) (by first | trivial | rfl) (by first | trivial | rfl) k6.out hB0.out rfl rfl rfl rfl

theorem methF.mono (l : Rl) (st : Int) (d : ByteArray) (ec ed : Int) (f k : Nat) : LeO (methF k l st d ec ed f) (methF (k + 1) l st d ec ed f) := by
  have h1 : LeO (digF k l d ed) (digF (k + 1) l d ed) := LeO.ite (LeO.bind (dialplan_Analyze.mono _ _ _ k) (fun _ => LeO.refl _)) (LeO.refl _)
  have h2 : LeO (timF k l d) (timF (k + 1) l d) := LeO.ite (LeO.refl _) (LeO.bind (dialplan_Analyze.mono _ _ _ k) (fun _ => LeO.refl _))
  exact LeO.ite (LeO.refl _) (LeO.ite (LeO.refl _) (LeO.ite h1 (LeO.ite h2 (LeO.refl _))))
theorem origin_Step.mono : ∀ a0 a1 a2 a3 a4 a5 k, LeO (origin_Step.f k a0 a1 a2 a3 a4 a5) (origin_Step.f (k + 1) a0 a1 a2 a3 a4 a5) := by
  intro a0 a1 a2 a3 a4 a5 k
  refine LeO.bind (origin_Check.mono _ _ _ k) (fun r => LeO.ite (LeO.refl _) (LeO.ite (LeO.refl _) (LeO.ite ?_ (LeO.refl _))))
  cases tabI a0 a3 with
  | none => exact LeO.refl _
  | some f => exact LeO.bind (methF.mono _ _ _ _ _ f k) (fun _ => LeO.refl _)


end Go.Proofs.YthknfclhkmehgaaDoor.Fn
