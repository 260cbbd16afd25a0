/-
  trie.entries: the iterator over the stored prefixes at a node and below it: its contract.
  trie.entries: its iterator's contract.
-/
import Derived.Test.YthknfclhkmehgaaDoorELong
import Derived.Laws.EntriesVeiled
namespace Go.Proofs.YthknfclhkmehgaaDoor.Fn
open Go.RowKit Go.Shelf Go.Proofs.YthknfclhkmehgaaDoorW.PrintWords Go.Proofs.YthknfclhkmehgaaDoorW.PrintLast Go.Proofs.YthknfclhkmehgaaDoorW.PrintMore
set_option linter.unusedVariables false
set_option linter.unusedSimpArgs false

attribute [local go_sem] Oper.semAt_some

theorem roundIn_any {m m' : Nat} {P : Program} {l : Nat} {f : FuncId} {tmps : Array Value} {assign body : Code} {w : World} {R : Ending → World → Prop}
    (h : RoundIn Fence.wide m P l f tmps assign body w R) : RoundIn Fence.wide m' P l f tmps assign body w R := ⟨h.1, fun c cs _ => h.2 c cs (room_wide _)⟩
theorem yieldAt_any {m : Nat} (m' : Nat) {P : Program} {l : Nat} {args : Array Value} {W : World} {R : Ending → World → Prop} (h : YieldAt Fence.wide m P l args W R) : YieldAt Fence.wide m' P l args W R := by
  obtain ⟨fn, tmps, assign, body, hy, hR⟩ := h
  exact ⟨fn, tmps, assign, body, hy, roundIn_any hR⟩

/-- Of what lies in memory only cells of the types T have changed, and those not below n0. -/
def KpT (n0 : Nat) (T : Nat → Prop) (W W' : World) : Prop := Below n0 W W' ∧ ∀ (k : Nat) (cs : Array Value) (t : TypeId) (x : Nat × Nat), W.heap[k]? = some (.cells cs t x) → ¬ T t → W'.heap[k]? = some (.cells cs t x)
theorem KpT.refl (n0 : Nat) (T : Nat → Prop) (W : World) : KpT n0 T W W := ⟨Below.refl _ _, fun _ _ _ _ h _ => h⟩
theorem KpT.trans {n0 : Nat} {T : Nat → Prop} {A B C : World} (h : KpT n0 T A B) (k : KpT n0 T B C) : KpT n0 T A C := ⟨h.1.trans k.1, fun _ _ _ _ x y => k.2 _ _ _ _ (h.2 _ _ _ _ x y) y⟩
theorem KpT.of_below {n0 : Nat} {T : Nat → Prop} {A B : World} (hn : n0 ≤ A.heap.size) (h : Below A.heap.size A B) : KpT n0 T A B := ⟨h.mono hn, fun k _ _ _ x _ => (h.block k (Array.getElem?_eq_some_iff.1 x).1).trans x⟩

theorem enc1 (r : Nat) (c1 : r < 128) : (Utf8.encode (r : Int)).data.toList = [UInt8.ofNat r] := by
  have v : Utf8.valid (r : Int) = true := by simp [Utf8.valid]; omega
  simp [Utf8.encode, v, c1]

theorem enc_dig (d : Int) (h0 : 0 ≤ d) (h1 : d < 10) : (Utf8.encode (48 + d)).data.toList = [Tr.dig d.toNat] := by
  have e := enc1 (48 + d.toNat) (by omega)
  rw [show ((48 + d.toNat : Nat) : Int) = 48 + d by omega] at e
  exact e
/-- What the recursive closure finds. -/
def Rv (w0 : World) (tb yb vb : Nat) (tv yv vv : Value) (W : World) : Prop :=
  Below w0.heap.size w0 W ∧ W.heap[tb]? = some (.cells #[tv] 32 (0, 0)) ∧ W.heap[yb]? = some (.cells #[yv] 110 (0, 0)) ∧ W.heap[vb]? = some (.cells #[vv] 111 (0, 0))
theorem Rv.kp {w0 : World} {tb yb vb : Nat} {tv yv vv : Value} {W W' : World} {T : Nat → Prop} (h : Rv w0 tb yb vb tv yv vv W) (hk : KpT w0.heap.size T W W') (h1 : ¬ T 32) (h2 : ¬ T 110) (h3 : ¬ T 111) :
    Rv w0 tb yb vb tv yv vv W' := ⟨h.1.trans hk.1, hk.2 _ _ _ _ h.2.1 h1, hk.2 _ _ _ _ h.2.2.1 h2, hk.2 _ _ _ _ h.2.2.2 h3⟩

abbrev encE (x : Tr.Str × Int) : Array Value := #[.string ⟨x.1.toArray⟩, .int .i64 x.2]

set_option maxRecDepth 100000 in
set_option maxHeartbeats 4000000 in
theorem visit_in (l tb yb vb : Nat) (w0 : World) (A0 : Option Addr) (c0 : Nat) (l0 : List S77) (T : Nat → Prop) (N : Nat)
    (hr0 : Kd.C k77 w0 A0 l0.length l0) (hc0 : l0.length ≤ c0) (hin : Inn (tt l0)) (hcap : l0.length ≤ 4096)
    (dep : Nat → Nat) (hdep : ∀ i d, i < l0.length → d < 10 → Tr.kid (tt l0) i d ≠ 0 → dep (Tr.kid (tt l0) i d).toNat = dep i + 1) (hdep15 : ∀ i, i < l0.length → dep i ≤ 15)
    (hT0 : ¬ T 77) (hT1 : ¬ T 32) (hT2 : ¬ T 110) (hT3 : ¬ T 111)
    (J Jx : List (Tr.Str × Int) → World → Prop) (hA : ∀ s W W', J s W → W.grownBy W' none → J s W')
    (hY : ∀ m pre x W, J pre W → pre.length < N → YieldAt Fence.wide m Tryd.prog l (encE x) W fun e W' =>
      (e = .returned (.bool true) ∧ J (pre ++ [x]) W' ∧ KpT w0.heap.size T W W') ∨ (e = .returned (.bool false) ∧ Jx (pre ++ [x]) W')) :
    ∀ (fuel n : Nat) (i : Int) (pfx : ByteArray) (pre : List (Tr.Str × Int)) (W : World), 0 ≤ i → i < l0.length → dep i.toNat + fuel = 16 → pfx.size = dep i.toNat → J pre W →
      Rv w0 tb yb vb (.slice A0 l0.length c0) (.func (.yield l) #[] #[]) (.func (.func 63) #[] #[.pointer (some ⟨tb, 0, none⟩), .pointer (some ⟨yb, 0, none⟩), .pointer (some ⟨vb, 0, none⟩)]) W →
      pre.length + (Tr.ents (tt l0) fuel i.toNat pfx.data.toList).length ≤ N →
      CallsIn Fence.wide n Tryd.prog 63 #[.int .i64 i, .string pfx, .pointer (some ⟨tb, 0, none⟩), .pointer (some ⟨yb, 0, none⟩), .pointer (some ⟨vb, 0, none⟩)] W fun e W' =>
        (e = .returned (.bool true) ∧ J (pre ++ Tr.ents (tt l0) fuel i.toNat pfx.data.toList) W' ∧ KpT w0.heap.size T W W') ∨ (e = .returned (.bool false) ∧ ∃ q, q <+: pre ++ Tr.ents (tt l0) fuel i.toNat pfx.data.toList ∧ Jx q W') := by
  intro fuel
  induction fuel with
  | zero =>
    intro n i pfx pre W h0 h1 hd _ _ _ _
    have := hdep15 i.toNat (by omega)
    omega
  | succ fuel ih =>
    intro n i pfx pre W h0 h1 hd hpf hJ hRv hN
    have hu24 := Tryd.underlying32
    have hu71 := Tryd.underlying77
    have hu69 := Tryd.underlying75
    have htb : W.cell? ⟨tb, 0, none⟩ = some (.slice A0 l0.length c0) := (blk_cell hRv.2.1 0).trans rfl
    have hkd : ∀ d, d < 10 → Tr.kid (tt l0) i.toNat d = at75 (rd_T77 l0 i).f0 (d : Int) := fun d hd => by
      rw [kid_at l0 i.toNat d hd, Int.toNat_of_nonneg h0]
    have hvl : Tr.val (tt l0) i.toNat = (rd_T77 l0 i).f1 := by rw [val_at, Int.toNat_of_nonneg h0]
    obtain ⟨ad, rfl, x0, x1, x2, x3, x4, x5, x6, x7, x8, x9, x10⟩ := at_T77 (Kd.C_below hr0 hRv.1) i h0 h1
    generalize rd_T77 l0 i = nd at hkd hvl x0 x1 x2 x3 x4 x5 x6 x7 x8 x9 x10
    obtain ⟨⟨k0, k1, k2, k3, k4, k5, k6, k7, k8, k9⟩, v⟩ := nd
    dsimp only at hkd hvl x0 x1 x2 x3 x4 x5 x6 x7 x8 x9 x10
    have p3 : (0 ≤ i) = True := eq_true h0
    have p4 : (i < l0.length) = True := eq_true h1
    obtain ⟨cs, hcs⟩ : ∃ cs : Array Value, cs = #[.int .i64 k0, .int .i64 k1, .int .i64 k2, .int .i64 k3, .int .i64 k4, .int .i64 k5, .int .i64 k6, .int .i64 k7, .int .i64 k8, .int .i64 k9, .int .i64 v] := ⟨_, rfl⟩
    obtain ⟨W1, hW1⟩ : ∃ W1, W.alloc (.cells #[.int .i64 k0, .int .i64 k1, .int .i64 k2, .int .i64 k3, .int .i64 k4, .int .i64 k5, .int .i64 k6, .int .i64 k7, .int .i64 k8, .int .i64 k9, .int .i64 v] 77) = W1 := ⟨_, rfl⟩
    have hB1 : Below W.heap.size W W1 := by rw [← hW1]; exact below_alloc (Below.refl _ _) _
    have hn1 : W1.heap[W.heap.size]? = some (.cells cs 77 (0, 0)) := by rw [← hW1, hcs]; exact World.alloc_heap_new W _
    have hK1 : KpT w0.heap.size T W W1 := KpT.of_below hRv.1.size hB1
    have hRv1 := hRv.kp hK1 hT1 hT2 hT3
    have hJ1 : J pre W1 := hA _ _ _ hJ (grown_of_below hB1 none)
    have hcell : ∀ W' : World, W'.heap[W.heap.size]? = some (.cells cs 77 (0, 0)) → W'.cell? ⟨W.heap.size, 0, none⟩ = some (.int .i64 k0) ∧ W'.cell? ⟨W.heap.size, 1, none⟩ = some (.int .i64 k1) ∧ W'.cell? ⟨W.heap.size, 2, none⟩ = some (.int .i64 k2) ∧ W'.cell? ⟨W.heap.size, 3, none⟩ = some (.int .i64 k3) ∧ W'.cell? ⟨W.heap.size, 4, none⟩ = some (.int .i64 k4) ∧
        W'.cell? ⟨W.heap.size, 5, none⟩ = some (.int .i64 k5) ∧ W'.cell? ⟨W.heap.size, 6, none⟩ = some (.int .i64 k6) ∧ W'.cell? ⟨W.heap.size, 7, none⟩ = some (.int .i64 k7) ∧ W'.cell? ⟨W.heap.size, 8, none⟩ = some (.int .i64 k8) ∧ W'.cell? ⟨W.heap.size, 9, none⟩ = some (.int .i64 k9) ∧ W'.cell? ⟨W.heap.size, 10, none⟩ = some (.int .i64 v) := by
      intro W' h
      refine ⟨?_, ?_, ?_, ?_, ?_, ?_, ?_, ?_, ?_, ?_, ?_⟩ <;> (rw [blk_cell h, hcs]; rfl)
    clear hcs
    obtain ⟨y0, y1, y2, y3, y4, y5, y6, y7, y8, y9, y10⟩ := hcell W1 hn1
    have hyb : W1.cell? ⟨yb, 0, none⟩ = some (.func (.yield l) #[] #[]) := (blk_cell hRv1.2.2.1 0).trans rfl
    obtain ⟨own, hown⟩ : ∃ own : List (Tr.Str × Int), own = (if v = 0 then [] else [(pfx.data.toList, v)]) := ⟨_, rfl⟩
    obtain ⟨part, hpart⟩ : ∃ part : Nat → List (Tr.Str × Int), part = fun d => (List.range d).flatMap fun d => if Tr.kid (tt l0) i.toNat d = 0 then [] else Tr.ents (tt l0) fuel (Tr.kid (tt l0) i.toNat d).toNat (pfx.data.toList ++ [Tr.dig d]) := ⟨_, rfl⟩
    have hall : Tr.ents (tt l0) (fuel + 1) i.toNat pfx.data.toList = own ++ part 10 := by
      rw [hown, hpart]
      simp only [Tr.ents, hvl]
    have hstep : ∀ d, part (d + 1) = part d ++ if Tr.kid (tt l0) i.toNat d = 0 then [] else Tr.ents (tt l0) fuel (Tr.kid (tt l0) i.toNat d).toNat (pfx.data.toList ++ [Tr.dig d]) := by
      intro d
      rw [hpart]
      simp only [List.range_succ, List.flatMap_append, List.flatMap_cons, List.flatMap_nil, List.append_nil]
    have hlen : ∀ d, d ≤ 10 → (part d).length ≤ (part 10).length := by
      intro d hd
      obtain ⟨e, he⟩ : ∃ e, 10 = d + e := ⟨10 - d, by omega⟩
      rw [he]
      clear he
      induction e with
      | zero => exact Nat.le_refl _
      | succ e ih => rw [show d + (e + 1) = (d + e) + 1 by omega, hstep, List.length_append]; omega
    have hpfx : ∀ d, d ≤ 10 → part d <+: part 10 := by
      intro d hd
      obtain ⟨e, he⟩ : ∃ e, 10 = d + e := ⟨10 - d, by omega⟩
      rw [he]
      clear he
      induction e with
      | zero => exact List.prefix_refl _
      | succ e ih => rw [show d + (e + 1) = (d + e) + 1 by omega, hstep]; exact ih.trans (List.prefix_append _ _)
    have hpart0 : part 0 = [] := by rw [hpart]; rfl
    clear hpart
    rw [hall] at hN ⊢
    replace hstep := Aside0.mk hstep
    replace hlen := Aside0.mk hlen
    replace hpfx := Aside0.mk hpfx
    replace hall := Aside0.mk hall
    replace hown := Aside0.mk hown
    replace ih := Aside0.mk ih
    have hdt := Aside0.mk hdep
    clear hdep
    replace hN := Aside0.mk hN
    replace hkd := Aside0.mk hkd
    replace hvl := Aside0.mk hvl
    replace hd := Aside0.mk hd
    replace hpf := Aside0.mk hpf
    refine callsIn_of_wp Tryd.func63 rfl trivial ?_ rfl
    simp only [Tryd.ntmps63, List.size_toArray, List.length_cons, List.length_nil, Nat.reduceAdd, Nat.reduceSub, Array.replicate_succ, Array.replicate_zero, List.push_toArray, List.append_toArray, List.nil_append, List.cons_append]
    by_cases hv0 : v = 0
    · have hvb : (v != 0) = false := by simpa using hv0
      have HJ : J (pre ++ (own ++ part 0)) W1 := by rw [hown.out, if_pos hv0, hpart0]; simpa using hJ1
      have HK := hK1
      replace hv0 := Aside0.mk hv0
      gi_wp2
      refine ⟨fun _ h => (by cases h), ?_⟩
      gi_wp2
      gi_loopw [29] (fun x29 wr => ∃ d : Int, 0 ≤ d ∧ d ≤ 10 ∧ x29 = .int .i64 d ∧ J (pre ++ (own ++ part d.toNat)) wr ∧ KpT w0.heap.size T W wr) (fun x29 _ => 10 - (intOf x29).toNat)
      case atStart => exact ⟨0, by omega, by omega, rfl, HJ, HK⟩
      case round =>
        obtain ⟨d, hd0, hd10, rfl, hJs, hKs⟩ := hrel
        by_cases hlt : d < 10
        · have hx := index_at75 (s := ⟨k0, k1, k2, k3, k4, k5, k6, k7, k8, k9⟩) hd0 hlt
          dsimp only at hx
          have hkk := hkd.out d.toNat (by omega)
          rw [Int.toNat_of_nonneg hd0] at hkk
          generalize at75 (⟨k0, k1, k2, k3, k4, k5, k6, k7, k8, k9⟩ : S75) d = kk at hx hkk
          have hst := hstep.out d.toNat
          rw [hkk] at hst
          replace hst := Aside0.mk hst
          replace hkk := Aside0.mk hkk
          have hRvr := hRv.kp hKs hT1 hT2 hT3
          have hvbc : wr.cell? ⟨vb, 0, none⟩ = some (.func (.func 63) #[] #[.pointer (some ⟨tb, 0, none⟩), .pointer (some ⟨yb, 0, none⟩), .pointer (some ⟨vb, 0, none⟩)]) := (blk_cell hRvr.2.2.2 0).trans rfl
          have hen := enc_dig d hd0 hlt
          have hes : (Utf8.encode (48 + d)).size = 1 := by
            have := congrArg List.length hen
            simpa using this
          replace hen := Aside0.mk hen
          have hsz : (9223372036854775807 < pfx.size + 1) = False := eq_false (by have := hd.out; have := hpf.out; omega)
          by_cases hk0 : kk = 0
          · have hkb : (kk != 0) = false := by simpa using hk0
            replace hk0 := Aside0.mk hk0
            gi_wp2
            refine ⟨fun _ h => (by cases h), ?_⟩
            gi_wp2
            go_roundw
            case rel =>
              refine ⟨d + 1, by omega, by omega, rfl, ?_, hKs⟩
              rw [show (d + 1).toNat = d.toNat + 1 by omega, hst.out, if_pos hk0.out, List.append_nil]
              exact hJs
            case measure => simp [intOf]; omega
          · have hkb : (kk != 0) = true := by simpa using hk0
            replace hk0 := Aside0.mk hk0
            gi_wp2
            have hkid := hin i.toNat d.toNat (by rw [tt_length]; omega) (by omega)
            rw [hkk.out, tt_length] at hkid
            have hdk := hdt.out i.toNat d.toNat (by omega) (by omega) (by rw [hkk.out]; exact hk0.out)
            rw [hkk.out] at hdk
            have hps : (pfx ++ Utf8.encode (48 + d)).data.toList = pfx.data.toList ++ [Tr.dig d.toNat] := by rw [← hen.out]; simp
            have hpz : (pfx ++ Utf8.encode (48 + d)).size = pfx.size + 1 := by rw [ByteArray.size_append, hes]
            refine ⟨trivial, fun h => (by cases h), ?_⟩
            have hcall := ih.out (n - 1) kk (pfx ++ Utf8.encode (48 + d)) (pre ++ (own ++ part d.toNat)) wr hkid.1 hkid.2 (by have := hd.out; omega) (by rw [hpz, hpf.out, hdk]) hJs hRvr (by
              have h1 := hN.out
              have h2 := hlen.out (d.toNat + 1) (by omega)
              rw [hst.out, if_neg hk0.out, List.length_append] at h2
              rw [hps]
              simp only [List.length_append] at h1 ⊢
              omega)
            rw [hps] at hcall
            refine hcall.mono ?_
            rintro e W4 (⟨rfl, hJ4, hK4⟩ | ⟨rfl, q, hqp, hq⟩)
            · gi_wp2
              go_roundw
              case rel =>
                refine ⟨d + 1, by omega, by omega, rfl, ?_, hKs.trans hK4⟩
                rw [show (d + 1).toNat = d.toNat + 1 by omega, hst.out, if_neg hk0.out]
                simpa only [List.append_assoc] using hJ4
              case measure => simp [intOf]; omega
            · gi_wp2
              refine bodyPost_ret (results_tmp rfl _ _ _) rfl ?_
              refine .inr ⟨rfl, q, hqp.trans ?_, hq⟩
              have h2 := hpfx.out (d.toNat + 1) (by omega)
              rw [hst.out, if_neg hk0.out] at h2
              rw [List.append_assoc, List.append_assoc]
              exact List.prefix_append_right_inj _ |>.2 ((List.prefix_append_right_inj _).2 h2)
        · have hd : d = 10 := by omega
          subst hd
          gi_wp2
          refine bodyPost_ret (results_tmp rfl _ _ _) rfl ?_
          exact .inl ⟨rfl, hJs, hKs⟩
    · have hvb : (v != 0) = true := by simpa using hv0
      obtain ⟨fn, tmps, assign, body, hy, hR⟩ := hY (n - 1) pre (pfx.data.toList, v) W1 hJ1 (by have := hN.out; rw [hown.out, if_neg hv0] at this; simp at this; omega)
      dsimp only [encE] at hy
      rw [show (⟨pfx.data.toList.toArray⟩ : ByteArray) = pfx from rfl] at hy
      replace hv0 := Aside0.mk hv0
      gi_wp2
      refine ⟨fun h => (by cases h), ?_⟩
      refine hR.mono ?_
      rintro e W3 (⟨rfl, hJ3, hK3⟩ | ⟨rfl, hx3⟩)
      rotate_left
      · gi_wp2
        go_ret
        exact .inr ⟨rfl, _, by rw [hown.out, if_neg hv0.out]; exact ⟨part 10, by simp⟩, hx3⟩
      have hn3 := hK3.2 _ _ _ _ hn1 hT0
      obtain ⟨z0, z1, z2, z3, z4, z5, z6, z7, z8, z9, z10⟩ := hcell W3 hn3
      have HJ : J (pre ++ (own ++ part 0)) W3 := by rw [hown.out, if_neg hv0.out, hpart0]; simpa using hJ3
      have HK := hK1.trans hK3
      gi_wp2
      gi_loopw [29] (fun x29 wr => ∃ d : Int, 0 ≤ d ∧ d ≤ 10 ∧ x29 = .int .i64 d ∧ J (pre ++ (own ++ part d.toNat)) wr ∧ KpT w0.heap.size T W wr) (fun x29 _ => 10 - (intOf x29).toNat)
      case atStart => exact ⟨0, by omega, by omega, rfl, HJ, HK⟩
      case round =>
        obtain ⟨d, hd0, hd10, rfl, hJs, hKs⟩ := hrel
        by_cases hlt : d < 10
        · have hx := index_at75 (s := ⟨k0, k1, k2, k3, k4, k5, k6, k7, k8, k9⟩) hd0 hlt
          dsimp only at hx
          have hkk := hkd.out d.toNat (by omega)
          rw [Int.toNat_of_nonneg hd0] at hkk
          generalize at75 (⟨k0, k1, k2, k3, k4, k5, k6, k7, k8, k9⟩ : S75) d = kk at hx hkk
          have hst := hstep.out d.toNat
          rw [hkk] at hst
          replace hst := Aside0.mk hst
          replace hkk := Aside0.mk hkk
          have hRvr := hRv.kp hKs hT1 hT2 hT3
          have hvbc : wr.cell? ⟨vb, 0, none⟩ = some (.func (.func 63) #[] #[.pointer (some ⟨tb, 0, none⟩), .pointer (some ⟨yb, 0, none⟩), .pointer (some ⟨vb, 0, none⟩)]) := (blk_cell hRvr.2.2.2 0).trans rfl
          have hen := enc_dig d hd0 hlt
          have hes : (Utf8.encode (48 + d)).size = 1 := by
            have := congrArg List.length hen
            simpa using this
          replace hen := Aside0.mk hen
          have hsz : (9223372036854775807 < pfx.size + 1) = False := eq_false (by have := hd.out; have := hpf.out; omega)
          by_cases hk0 : kk = 0
          · have hkb : (kk != 0) = false := by simpa using hk0
            replace hk0 := Aside0.mk hk0
            gi_wp2
            refine ⟨fun _ h => (by cases h), ?_⟩
            gi_wp2
            go_roundw
            case rel =>
              refine ⟨d + 1, by omega, by omega, rfl, ?_, hKs⟩
              rw [show (d + 1).toNat = d.toNat + 1 by omega, hst.out, if_pos hk0.out, List.append_nil]
              exact hJs
            case measure => simp [intOf]; omega
          · have hkb : (kk != 0) = true := by simpa using hk0
            replace hk0 := Aside0.mk hk0
            gi_wp2
            have hkid := hin i.toNat d.toNat (by rw [tt_length]; omega) (by omega)
            rw [hkk.out, tt_length] at hkid
            have hdk := hdt.out i.toNat d.toNat (by omega) (by omega) (by rw [hkk.out]; exact hk0.out)
            rw [hkk.out] at hdk
            have hps : (pfx ++ Utf8.encode (48 + d)).data.toList = pfx.data.toList ++ [Tr.dig d.toNat] := by rw [← hen.out]; simp
            have hpz : (pfx ++ Utf8.encode (48 + d)).size = pfx.size + 1 := by rw [ByteArray.size_append, hes]
            refine ⟨trivial, fun h => (by cases h), ?_⟩
            have hcall := ih.out (n - 1) kk (pfx ++ Utf8.encode (48 + d)) (pre ++ (own ++ part d.toNat)) wr hkid.1 hkid.2 (by have := hd.out; omega) (by rw [hpz, hpf.out, hdk]) hJs hRvr (by
              have h1 := hN.out
              have h2 := hlen.out (d.toNat + 1) (by omega)
              rw [hst.out, if_neg hk0.out, List.length_append] at h2
              rw [hps]
              simp only [List.length_append] at h1 ⊢
              omega)
            rw [hps] at hcall
            refine hcall.mono ?_
            rintro e W4 (⟨rfl, hJ4, hK4⟩ | ⟨rfl, q, hqp, hq⟩)
            · gi_wp2
              go_roundw
              case rel =>
                refine ⟨d + 1, by omega, by omega, rfl, ?_, hKs.trans hK4⟩
                rw [show (d + 1).toNat = d.toNat + 1 by omega, hst.out, if_neg hk0.out]
                simpa only [List.append_assoc] using hJ4
              case measure => simp [intOf]; omega
            · gi_wp2
              refine bodyPost_ret (results_tmp rfl _ _ _) rfl ?_
              refine .inr ⟨rfl, q, hqp.trans ?_, hq⟩
              have h2 := hpfx.out (d.toNat + 1) (by omega)
              rw [hst.out, if_neg hk0.out] at h2
              rw [List.append_assoc, List.append_assoc]
              exact List.prefix_append_right_inj _ |>.2 ((List.prefix_append_right_inj _).2 h2)
        · have hd : d = 10 := by omega
          subst hd
          gi_wp2
          refine bodyPost_ret (results_tmp rfl _ _ _) rfl ?_
          exact .inl ⟨rfl, hJs, hKs⟩
end Go.Proofs.YthknfclhkmehgaaDoor.Fn
namespace Go.Proofs.YthknfclhkmehgaaDoor.Fn
open Go.RowKit Go.Shelf Go.Proofs.YthknfclhkmehgaaDoorW.PrintWords Go.Proofs.YthknfclhkmehgaaDoorW.PrintLast Go.Proofs.YthknfclhkmehgaaDoorW.PrintMore
set_option linter.unusedVariables false
set_option linter.unusedSimpArgs false

attribute [local go_sem] Oper.semAt_some

set_option maxRecDepth 100000 in
set_option maxHeartbeats 4000000 in
theorem entries1_in (n : Nat) (l tb ab pb : Nat) (w0 : World) (A0 : Option Addr) (c0 : Nat) (l0 : List S77) (T : Nat → Prop) (i : Int) (pfx : ByteArray)
    (hr0 : Kd.C k77 w0 A0 l0.length l0) (hc0 : l0.length ≤ c0) (hin : Inn (tt l0)) (hcap : l0.length ≤ 4096)
    (dep : Nat → Nat) (hdep : ∀ i d, i < l0.length → d < 10 → Tr.kid (tt l0) i d ≠ 0 → dep (Tr.kid (tt l0) i d).toNat = dep i + 1) (hdep15 : ∀ i, i < l0.length → dep i ≤ 15)
    (hT0 : ¬ T 77) (hT1 : ¬ T 32) (hT2 : ¬ T 110) (hT3 : ¬ T 111)
    (hi0 : 0 ≤ i) (hi1 : i < l0.length) (hpf : pfx.size = dep i.toNat)
    (J Jx : List (Tr.Str × Int) → World → Prop) (hA : ∀ s W W', J s W → W.grownBy W' none → J s W')
    (hY : ∀ pre x W, J pre W → pre.length < (Tr.ents (tt l0) (16 - dep i.toNat) i.toNat pfx.data.toList).length → YieldAt Fence.wide (n - 1) Tryd.prog l (encE x) W fun e W' =>
      (e = .returned (.bool true) ∧ J (pre ++ [x]) W' ∧ KpT w0.heap.size T W W') ∨ (e = .returned (.bool false) ∧ Jx (pre ++ [x]) W'))
    (W : World) (hB : Below w0.heap.size w0 W) (htb : W.heap[tb]? = some (.cells #[.slice A0 l0.length c0] 32 (0, 0))) (hab : W.cell? ⟨ab, 0, none⟩ = some (.int .i64 i)) (hpb : W.cell? ⟨pb, 0, none⟩ = some (.string pfx)) (h0 : J [] W) :
    CallsIn Fence.wide n Tryd.prog 62 #[.func (.yield l) #[] #[], .pointer (some ⟨tb, 0, none⟩), .pointer (some ⟨ab, 0, none⟩), .pointer (some ⟨pb, 0, none⟩)] W fun e W' => (∃ v, e = .returned v) ∧
      ((∃ ys, ys = Tr.ents (tt l0) (16 - dep i.toNat) i.toNat pfx.data.toList ∧ J ys W') ∨ (∃ pre, pre <+: Tr.ents (tt l0) (16 - dep i.toNat) i.toNat pfx.data.toList ∧ Jx pre W')) := by
  have hd15 := hdep15 i.toNat (by omega)
  obtain ⟨vv, hvv⟩ : ∃ vv : Value, vv = .func (.func 63) #[] #[.pointer (some ⟨tb, 0, none⟩), .pointer (some ⟨W.heap.size, 0, none⟩), .pointer (some ⟨W.heap.size + 1, 0, none⟩)] := ⟨_, rfl⟩
  obtain ⟨Wn, hWn⟩ : ∃ Wn, (W.alloc (.cells #[.func (.yield l) #[] #[]] 110)).alloc (.cells #[Value.nilFunc] 111) = Wn := ⟨_, rfl⟩
  have hBn : Below W.heap.size W Wn := by rw [← hWn]; exact below_alloc (below_alloc (Below.refl _ _) _) _
  have hvn : Wn.heap[W.heap.size + 1]? = some (.cells #[Value.nilFunc] 111 (0, 0)) := by
    rw [← hWn]
    have := World.alloc_heap_new (W.alloc (.cells #[.func (.yield l) #[] #[]] 110)) (.cells #[Value.nilFunc] 111)
    rwa [World.size_alloc] at this
  have hyn : Wn.heap[W.heap.size]? = some (.cells #[.func (.yield l) #[] #[]] 110 (0, 0)) := by
    rw [← hWn]
    exact blk_alloc (World.alloc_heap_new W _) _
  have n1 : Wn.cell? ⟨W.heap.size + 1, 0, none⟩ = some Value.nilFunc := (blk_cell hvn 0).trans rfl
  have n2 : Wn.frozen? ⟨W.heap.size + 1, 0, none⟩ = false := blk_frozen hvn 0
  obtain ⟨W2, hW2⟩ : ∃ W2, Wn.setCell ⟨W.heap.size + 1, 0, none⟩ vv = W2 := ⟨_, rfl⟩
  have hB2 : Below W.heap.size W W2 := by rw [← hW2]; exact hBn.setCell (by simp) _
  have hv2 : W2.heap[W.heap.size + 1]? = some (.cells #[vv] 111 (0, 0)) := by
    rw [← hW2]
    exact blk_put hvn 0 vv rfl
  have hy2 : W2.heap[W.heap.size]? = some (.cells #[.func (.yield l) #[] #[]] 110 (0, 0)) := by
    rw [← hW2]
    exact blk_far hyn (by simp) _
  have hRv : Rv w0 tb W.heap.size (W.heap.size + 1) (.slice A0 l0.length c0) (.func (.yield l) #[] #[]) vv W2 := ⟨hB.trans (hB2.mono hB.size), blk_below htb hB2, hy2, hv2⟩
  have hJ2 : J [] W2 := hA _ _ _ h0 (grown_of_below hB2 none)
  rw [hvv] at hRv
  have hcall := visit_in l tb W.heap.size (W.heap.size + 1) w0 A0 c0 l0 T _ hr0 hc0 hin hcap dep hdep hdep15 hT0 hT1 hT2 hT3 J Jx hA (fun m pre x W hj hl => yieldAt_any m (hY pre x W hj hl)) (16 - dep i.toNat) (n - 1) i pfx [] W2 hi0 hi1 (by omega) hpf hJ2 hRv (by simp)
  have e1 : W2.cell? ⟨W.heap.size + 1, 0, none⟩ = some vv := (blk_cell hv2 0).trans rfl
  have e2 : W2.cell? ⟨ab, 0, none⟩ = some (.int .i64 i) := pw_cell_below hB2 hab
  have e3 : W2.cell? ⟨pb, 0, none⟩ = some (.string pfx) := pw_cell_below hB2 hpb
  rw [hvv] at hW2 e1
  clear hv2 hy2 hvv hvn hyn
  refine callsIn_of_wp Tryd.func62 rfl trivial ?_ rfl
  simp only [Tryd.ntmps62, List.size_toArray, List.length_cons, List.length_nil, Nat.reduceAdd, Nat.reduceSub, Array.replicate_succ, Array.replicate_zero, List.push_toArray, List.append_toArray, List.nil_append, List.cons_append]
  gi_wp2
  refine ⟨trivial, fun h => (by cases h), ?_⟩
  refine hcall.mono ?_
  rintro e W3 (⟨rfl, hJ3, _⟩ | ⟨rfl, q, hqp, hq⟩)
  · gi_wp2
    go_end0
    exact ⟨⟨_, rfl⟩, .inl ⟨_, rfl, hJ3⟩⟩
  · gi_wp2
    go_end0
    exact ⟨⟨_, rfl⟩, .inr ⟨_, hqp, hq⟩⟩

/-- The iterator's contract: all the entries at a node and below it, in order; or a part of them. -/
theorem entries_stops (n tb ab pb : Nat) (w0 : World) (A0 : Option Addr) (c0 : Nat) (l0 : List S77) (T : Nat → Prop) (i : Int) (pfx : ByteArray)
    (hr0 : Kd.C k77 w0 A0 l0.length l0) (hc0 : l0.length ≤ c0) (hin : Inn (tt l0)) (hcap : l0.length ≤ 4096)
    (dep : Nat → Nat) (hdep : ∀ i d, i < l0.length → d < 10 → Tr.kid (tt l0) i d ≠ 0 → dep (Tr.kid (tt l0) i d).toNat = dep i + 1) (hdep15 : ∀ i, i < l0.length → dep i ≤ 15)
    (hT0 : ¬ T 77) (hT1 : ¬ T 32) (hT2 : ¬ T 110) (hT3 : ¬ T 111)
    (hi0 : 0 ≤ i) (hi1 : i < l0.length) (hpf : pfx.size = dep i.toNat)
    (w : World) (hB : Below w0.heap.size w0 w) (htb : w.heap[tb]? = some (.cells #[.slice A0 l0.length c0] 32 (0, 0))) (hab : w.cell? ⟨ab, 0, none⟩ = some (.int .i64 i)) (hpb : w.cell? ⟨pb, 0, none⟩ = some (.string pfx)) :
    SeqStopsK Fence.wide n Tryd.prog 62 #[.pointer (some ⟨tb, 0, none⟩), .pointer (some ⟨ab, 0, none⟩), .pointer (some ⟨pb, 0, none⟩)] encE (KpT w0.heap.size T)
      (fun ys => ys = Tr.ents (tt l0) (16 - dep i.toNat) i.toNat pfx.data.toList) (fun q => q <+: Tr.ents (tt l0) (16 - dep i.toNat) i.toNat pfx.data.toList) (Tr.ents (tt l0) (16 - dep i.toNat) i.toNat pfx.data.toList).length w := fun l J Jx W hW hA _ hY h0 =>
  entries1_in n l tb ab pb w0 A0 c0 l0 T i pfx hr0 hc0 hin hcap dep hdep hdep15 hT0 hT1 hT2 hT3 hi0 hi1 hpf J Jx (fun s W1 W2 h hg => hA s W1 W2 none h hg (fun r e => by cases e)) hY W
    (hB.trans (hW.mono hB.size)) (blk_below htb hW) (pw_cell_below hW hab) (pw_cell_below hW hpb) h0

theorem entries_in (n : Nat) (A0 : Option Addr) (len c0 : Nat) (i : Int) (s : ByteArray) (w : World) :
    CallsIn Fence.wide n Tryd.prog 47 #[.agg #[.slice A0 len c0], .int .i64 i, .string s] w fun e w' => e = .returned (.func (.func 62) #[] #[.pointer (some ⟨w.heap.size, 0, none⟩), .pointer (some ⟨w.heap.size + 1, 0, none⟩), .pointer (some ⟨w.heap.size + 1 + 1, 0, none⟩)]) ∧
      w' = ((w.alloc (.cells #[.slice A0 len c0] 32)).alloc (.cells #[.int .i64 i] 3)).alloc (.cells #[.string s] 9) := by
  have hu24 := Tryd.underlying32
  refine callsIn_of_wp Tryd.func47 rfl trivial ?_ rfl
  simp only [Tryd.ntmps47, List.size_toArray, List.length_cons, List.length_nil, Nat.reduceAdd, Nat.reduceSub, Array.replicate_succ, Array.replicate_zero, List.push_toArray, List.append_toArray, List.nil_append, List.cons_append]
  gi_wp2
  go_ret
  exact ⟨rfl, rfl⟩

end Go.Proofs.YthknfclhkmehgaaDoor.Fn
