/-
  PLAIN LAW: OriginMatchesDial's function answers true.
  OriginMatchesDial: the row and its card.
-/
import Derived.Test.YthknfclhkmehgaaDoorPRef16
import Derived.Test.YthknfclhkmehgaaDoorFn14
import Derived.Test.YthknfclhkmehgaaDoorCards
import Derived.Test.YthknfclhkmehgaaDoorTie
import Derived.Test.YthknfclhkmehgaaDoorEOpenR
import Derived.WalkKit
import Derived.ProofKit
import Derived.OpenShut
import Derived.ShutString
import Derived.ChangeOld
import Derived.Below
import Derived.SizedLaws
import Derived.Deep.DeepHandedRow
import Derived.Deep.DeepWitnessRowRef
import Derived.JoinedCond
namespace Go.Proofs.YthknfclhkmehgaaDoor.Fn
open Go.RowKit Go.Proofs.YthknfclhkmehgaaDoorW.PrintWords Go.Proofs.YthknfclhkmehgaaDoorW.PrintLast Go.Proofs.YthknfclhkmehgaaDoorW.PrintMore
set_option linter.unusedVariables false
set_option linter.unusedSimpArgs false

def dgM (b : UInt8) : S47 := ⟨3, 0, ((b.toNat : Nat) : Int)⟩
theorem dialM_go {l : Rl} {e : S47} {es : List S47} {st : Int} {d : ByteArray} {acts : Al} {r : O4} (hr : stepI l st d e.f0 e.f1 e.f2 = r) (he : r.2.2.2 = 0) : dialE l (e :: es) st d acts = dialE l es r.1 r.2.1 (acts ++ r.2.2.1) := by
  subst hr
  exact _root_.if_neg (fun hh => hh he)
theorem dialM_stop {l : Rl} {e : S47} {es : List S47} {st : Int} {d : ByteArray} {acts : Al} {r : O4} (hr : stepI l st d e.f0 e.f1 e.f2 = r) (he : r.2.2.2 ≠ 0) : dialE l (e :: es) st d acts = (0, ⟨#[]⟩, [], r.2.2.2) := by
  subst hr
  exact _root_.if_pos he
theorem rdial_loop (l : Rl) (s : ByteArray) (hs : s.size ≤ 1000) : ∀ (m i : Nat), s.size - i = m → i ≤ s.size → ∀ (st : Int) (d : ByteArray) (acts : Al), d.size ≤ 21 → acts.length ≤ 4 * (i + 1) →
    Ev (fun k => crossbarref16_Dial.l0 k l s acts 0 (i : Int) st d) (dialE l ((s.data.toList.drop i).map dgM) st d acts) := by
  intro m
  induction m with
  | zero =>
    intro i hm hi st d acts hd hl
    rw [List.drop_eq_nil_of_le (by rw [size_len]; omega)]
    refine Ev.step (fun k => crossbarref16_Dial.l0.eq_2 _ _ _ _ _ _ _ k) ?_
    exact Ev.if_neg (by omega) (Ev.if_pos rfl (Ev.now _))
  | succ m ih =>
    intro i hm hi st d acts hd hl
    have hil : i < s.size := by omega
    rw [strByte s i hil, List.map_cons]
    refine Ev.step (fun k => crossbarref16_Dial.l0.eq_2 _ _ _ _ _ _ _ k) ?_
    refine Ev.if_pos (by omega) (Ev.if_pos rfl (Ev.if_pos (by omega) ?_))
    rw [show bt s (i : Int) = ((s[i].toNat : Nat) : Int) by unfold bt; rw [Int.toNat_natCast, dif_pos hil]]
    refine Ev.bind (Step16 l st d 3 0 ((s[i].toNat : Nat) : Int) (by omega)) ?_
    obtain ⟨h1, h2⟩ := step_size l st d 3 0 ((s[i].toNat : Nat) : Int)
    refine Ev.if_pos (by omega) ?_
    rw [w64s (by omega)]
    obtain ⟨r, hr⟩ : ∃ r, r = stepI l st d 3 0 ((s[i].toNat : Nat) : Int) := ⟨_, rfl⟩
    rw [← hr] at h1 h2 ⊢
    by_cases c : r.2.2.2 = 0
    · rw [dialM_go (e := dgM s[i]) hr.symm c, c]
      exact ih (i + 1) (by omega) (by omega) _ _ _ h1 (by rw [List.length_append]; omega)
    · rw [dialM_stop (e := dgM s[i]) hr.symm c]
      refine Ev.step (fun k => crossbarref16_Dial.l0.eq_2 _ _ _ _ _ _ _ k) ?_
      by_cases g : ((i + 1 : Nat) : Int) < (s.size : Int)
      · exact Ev.if_pos g (Ev.if_neg c (Ev.now _))
      · exact Ev.if_neg g (Ev.if_neg c (Ev.now _))
theorem rdial_stop (l : Rl) (s : ByteArray) (acts : Al) (e : Int) (st : Int) (d : ByteArray) (he : e ≠ 0) : Ev (fun k => crossbarref16_Dial.l0 k l s acts e 0 st d) (0, ⟨#[]⟩, [], e) := by
  refine Ev.step (fun k => crossbarref16_Dial.l0.eq_2 _ _ _ _ _ _ _ k) ?_
  by_cases g : (0 : Int) < (s.size : Int)
  · exact Ev.if_pos g (Ev.if_neg he (Ev.now _))
  · exact Ev.if_neg g (Ev.if_neg he (Ev.now _))
theorem Dial16 (l : Rl) (s : ByteArray) (hs : s.size ≤ 1000) : Ev (fun k => crossbarref16_Dial.f k l s) (dialI l s) := by
  unfold crossbarref16_Dial.f dialI
  refine Ev.bind (Step16 l 0 ⟨#[]⟩ 1 0 0 (by decide)) ?_
  obtain ⟨h1, h2⟩ := step_size l 0 ⟨#[]⟩ 1 0 0
  rw [show evL s = ⟨1, 0, 0⟩ :: (s.data.toList.drop 0).map dgM from rfl]
  obtain ⟨r, hr⟩ : ∃ r, r = stepI l 0 ⟨#[]⟩ 1 0 0 := ⟨_, rfl⟩
  rw [← hr] at h1 h2 ⊢
  by_cases c : r.2.2.2 = 0
  · rw [dialM_go (e := ⟨1, 0, 0⟩) hr.symm c, c, List.nil_append]
    exact rdial_loop l s hs s.size 0 (by omega) (by omega) _ _ _ h1 (by omega)
  · rw [dialM_stop (e := ⟨1, 0, 0⟩) hr.symm c]
    exact rdial_stop l s _ _ _ _ c
theorem dialE_len (l : Rl) : ∀ (es : List S47) (st : Int) (d : ByteArray) (acts : Al), (dialE l es st d acts).2.2.1.length ≤ acts.length + 4 * es.length
  | [], st, d, acts => Nat.le_refl _
  | e :: es, st, d, acts => by
    unfold dialE
    by_cases c : (stepI l st d e.f0 e.f1 e.f2).2.2.2 = 0
    · rw [_root_.if_neg (fun hh => hh c)]
      have h := dialE_len l es (stepI l st d e.f0 e.f1 e.f2).1 (stepI l st d e.f0 e.f1 e.f2).2.1 (acts ++ (stepI l st d e.f0 e.f1 e.f2).2.2.1)
      rw [List.length_append] at h
      have h2 := (step_size l st d e.f0 e.f1 e.f2).2
      rw [List.length_cons]
      omega
    · rw [_root_.if_pos c]
      exact Nat.zero_le _
theorem mdial_pure (l : Rl) (s : ByteArray) : ∃ k, crossbarlaw16_OriginMatchesDial.f k l s = some true := by
  refine Ev.rounds (g := fun k => crossbarlaw16_OriginMatchesDial.f k l s) ?_
  unfold crossbarlaw16_OriginMatchesDial.f
  refine Ev.bind (a := true) (Ev.done rfl) ?_
  refine Ev.if_pos rfl ?_
  obtain ⟨b, hb, hs⟩ := Few_ev l s
  have hb' : Ev (fun k => crossbarref16_Few.f k l s) b := by
    unfold crossbarref16_Few.f
    exact Ev.bind hb (Ev.now _)
  refine Ev.bind hb' ?_
  cases b with
  | false => exact Ev.if_neg (by decide) (Ev.now _)
  | true =>
    obtain ⟨h80, h60⟩ := hs rfl
    refine Ev.if_pos rfl ?_
    refine Ev.bind (Dial_ev l s (by omega)) ?_
    refine Ev.bind (Dial16 l s (by omega)) ?_
    refine Ev.if_pos (by simp) ?_
    refine Ev.bind (Actions16 _ ?_) ?_
    · have h := dialE_len l (evL s) 0 ⟨#[]⟩ []
      rw [evL_length] at h
      show (dialE l (evL s) 0 ⟨#[]⟩ []).2.2.1.length < _
      simp at h
      omega
    refine Ev.if_pos rfl ?_
    exact Ev.done (by simp)

end Go.Proofs.YthknfclhkmehgaaDoor.Fn
namespace Go.Proofs.YthknfclhkmehgaaDoor.originMatchesDial
open Go.ChangeShapes Go.WideShapes Go.ChangeAt Go.RowKit Go.Proofs.YthknfclhkmehgaaDoor.Fn
open Go.ChangeMaps (open_string shut_string)
set_option linter.unusedVariables false
set_option linter.unusedSimpArgs false

set_option maxRecDepth 100000 in
theorem contract (H : Type) (enc : TypeId × Value → H) (W : World) (base : Nat) (args : Array Value) (ds gs : List (DataW H)) (before : List MemPlace)
    (hval : ∀ (j : Nat) t v, Tryd.f8.params[j]? = some t → args[j]? = some v → Value.okWide Tryd.prog W .any base t v)
    (hW : DataW.Whole enc Tryd.prog Tryd.f8.params.toList Rows.originMatchesDialSpec.vars false W args.toList ds gs before) :
    Calls Tryd.prog 8 args W fun e W' => ∃ v, e = .returned v ∧ Rows.originMatchesDialSpec.post enc Tryd.prog Tryd.f8 false true false false W args v W' := by
  have hW' := hW
  obtain ⟨p, q, hA0, hV, rfl, hfz, hnd⟩ := hW
  have hA : DataW.TrodAll enc Tryd.prog W 0 (fun _ => true) true Tryd.f8.params.toList args.toList ds p := hA0
  rw [Tryd.params8] at hA hval
  obtain ⟨v0, vs0, d0, ds0, p0, q0, hargs, rfl, rfl, h0, r0⟩ := trodAll_cons hA
  obtain ⟨v1, vs1, d1, ds1, p1, q1, rfl, rfl, rfl, h1, r1⟩ := trodAll_cons r0
  obtain ⟨rfl, rfl, rfl⟩ := trodAll_nil r1
  obtain rfl : args = #[v0, v1] := by cases args; simp_all
  obtain ⟨rfl, rfl⟩ := trodVars_none hV
  have k0 := h0
  have lt0 : ∀ x ∈ p0, x.block < W.heap.size := by obtain ⟨m, hm⟩ := k0; exact DataW.trod_lt m _ _ _ hm
  obtain ⟨A0, c0, l0, rfl, hC0, hc0⟩ := open_rules (hval 0 22 v0 rfl rfl) h0
  obtain ⟨a1, rfl, rfl, rfl, y1⟩ := open_string Tryd.underlying9 (hval 1 9 v1 rfl rfl) h1
  clear hA0
  obtain ⟨k, h⟩ := mdial_pure l0 a1
  refine (crossbarlaw16_OriginMatchesDial.calls k A0 c0 l0 a1 true rfl W hC0 hc0 h).mono fun e W' ⟨he, bel⟩ => ?_
  subst he
  exact ⟨_, rfl, _, _, _, [], _, [], hW', trodAll_mk1 (shut_bool Tryd.underlying4 _), (trodAll_cons_mk (Below.trod laidOut (by kernel_rfl) (of_decide_eq_true (by kernel_rfl)) k0 bel lt0) (trodAll_cons_mk (shut_string Tryd.underlying9 y1) trodAll_mk0)), rfl, bel.frame _, fun h => by cases h⟩

theorem witness_row (os : Os) {H : Type} (enc : TypeId × Value → H) :
    (OpenSpec.ofChange Rows.originMatchesDialSpec).preRow enc Tryd.prog Tryd.f8 Rows.originMatchesDialRow.domain false Rows.originMatchesDialRow.laid ((laidWorld os).forCall (fun _ _ => 0) ⟨#[], #[.slice none 0 0, .string ⟨#[]⟩], []⟩).memory #[.slice none 0 0, .string ⟨#[]⟩] := by
  have hw : (DataW.whole enc Tryd.prog ((laidWorld os).forCall (fun _ _ => 0) ⟨#[], #[.slice none 0 0, .string ⟨#[]⟩], []⟩).memory Tryd.f8.params.toList Rows.originMatchesDialSpec.vars false (#[.slice none 0 0, .string ⟨#[]⟩] : Array Value).toList 8).map (fun x => (x.1, x.2.1)) = some ([.nil, .lit (.string [])], []) := by kernel_rfl
  obtain ⟨⟨x1, x2, x3⟩, hx, hx1⟩ := Option.map_eq_some_iff.1 hw
  simp only [Prod.mk.injEq] at hx1
  obtain ⟨rfl, rfl⟩ := hx1
  exact OpenSpec.preRow_of_cond 8 hx (by kernel_rfl) (fun k hk => by cases hk) (by kernel_rfl) (laid_met os _)

set_option maxRecDepth 100000 in
theorem lifted (os : Os) (started : os.Started) (H : Type) (enc : TypeId × Value → H) (F : Stop.Interp) :
    ReturnsInHanded {} Tryd.checked os 8 .any ((OpenSpec.ofChange Rows.originMatchesDialSpec).preRow enc Tryd.prog Tryd.f8 Rows.originMatchesDialRow.domain false Rows.originMatchesDialRow.laid) (((OpenSpec.ofChange Rows.originMatchesDialSpec).at F).post enc Tryd.prog Tryd.f8 false true false false) := by
  refine returnsInHanded_of_row (C := Tryd.checked) (s := OpenSpec.ofChange Rows.originMatchesDialSpec) own started (by kernel_rfl) Tryd.func8
    (witness_row_atRef (enc := enc) (C := Tryd.checked) false (laidWorld os) #[.slice none 0 0, .string ⟨#[]⟩] rfl (by kernel_rfl) (by kernel_rfl) (by kernel_rfl) (witness_row os enc)) ?_
  intro W base args ds gs before hval hW _ _ _ _ _ _
  exact contract H enc W base args ds gs before hval hW

theorem said : Rows.OriginMatchesDialSaid :=
  OpenClaim.holds_of_cond 8 Tryd.f8 rfl rfl rfl rfl rfl rfl rfl ⟨rfl, rfl, rfl, rfl, rfl⟩ rfl rfl rfl rfl rfl (by kernel_rfl) Tryd.func8 (by kernel_rfl)
    (of_decide_eq_true (by kernel_rfl)) (by unfold Func.isWrapper; first | (rw [if_pos (by decide +kernel)]; kernel_rfl) | (rw [if_neg (by decide +kernel)]; exact ⟨rfl, rfl⟩))
    (fun os started H enc _ F => by rw [OpenClaim.pre_eq_preRow]; exact lifted os started H enc F)

theorem card : Rows.OriginMatchesDialCardSaid :=
  Claim7.holds_tied_plain_at .later [] _ _ _ _ said (fun _ h => by cases h) (by kernel_rfl) (fun _ h => by cases h) originMatchesDial_row_tie rfl ⟨rfl, rfl⟩ (by kernel_rfl) rfl
    (fun f fn hf hfn => by
      obtain rfl : f = 8 := Option.some.inj ((show Tryd.prog.funcNamed "crossbar/crossbarlaw16.OriginMatchesDial" = some 8 by kernel_rfl).symm.trans hf) |>.symm
      obtain rfl : fn = Tryd.f8 := (Option.some.inj (Tryd.func8.symm.trans hfn)).symm
      exact ⟨by kernel_rfl, fun j t ht => by
        rw [Tryd.params8] at ht
        have hm : t ∈ [22, 9] := by simpa using Array.mem_of_getElem? ht
        have hall : ([22, 9].all fun u => !Tryd.prog.wantsStandIn u) = true := by kernel_rfl
        exact (show Tryd.prog.wantsStandIn t = false by simpa using List.all_eq_true.1 hall t hm)⟩)
    (by kernel_rfl)
end Go.Proofs.YthknfclhkmehgaaDoor.originMatchesDial
namespace Go.Proofs.YthknfclhkmehgaaDoor
theorem originMatchesDial_card : Rows.OriginMatchesDialCardSaid := originMatchesDial.card
#print axioms originMatchesDial_card
end Go.Proofs.YthknfclhkmehgaaDoor
