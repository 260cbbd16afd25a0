/-
  PLAIN LAW: TrieRebuild's function answers true.
-/
import Derived.Test.YtmendieiikmbhaaDoorPTrie
import Derived.Test.YtmendieiikmbhaaDoorFn18
namespace Go.Proofs.YtmendieiikmbhaaDoor.Fn
open Go.RowKit Go.Proofs.YtmendieiikmbhaaDoorW.PrintWords Go.Proofs.YtmendieiikmbhaaDoorW.PrintLast Go.Proofs.YtmendieiikmbhaaDoorW.PrintMore
set_option linter.unusedVariables false
set_option linter.unusedSimpArgs false

/-- The entry that is put in round j. -/
def turnI (rev : Bool) (n j : Nat) : Nat := if rev then n - 1 - j else j
theorem turnI_lt {rev : Bool} {n j : Nat} (h : j < n) : turnI rev n j < n := by unfold turnI; split <;> omega
theorem turnI_turn {rev : Bool} {n j : Nat} (h : j < n) : turnI rev n (turnI rev n j) = j := by unfold turnI; split <;> omega
def entAt (T : Tr.Trie) (j : Nat) : Tr.Str × Int := (Tr.entries T).getD j ([], 0)
theorem entAt_mem {T : Tr.Trie} {j : Nat} (h : j < (Tr.entries T).length) : entAt T j ∈ Tr.entries T := by
  unfold entAt
  rw [List.getD_eq_getElem?_getD, List.getElem?_eq_getElem h]
  exact List.getElem_mem h
def Seen (T : Tr.Trie) (rev : Bool) (i : Nat) (r : Tr.Str) : Prop := ∃ j, j < i ∧ (entAt T (turnI rev (Tr.entries T).length j)).1 = r

structure RB (T : Tr.Trie) (rev : Bool) (i : Nat) (x : Tl) : Prop where
  ok : Ok x
  inn : ∀ r, Tr.Dig r → Seen T rev i r → Tr.look (tt x) r = Tr.look T r
  out : ∀ r, Tr.Dig r → ¬ Seen T rev i r → Tr.look (tt x) r = 0
  sub : ∀ r, Tr.Dig r → Tr.go (tt x) 0 r ≠ none → Tr.go T 0 r ≠ none

theorem rb_new (T : Tr.Trie) (rev : Bool) (x : Tl) (h : tt x = [Tr.nul]) (hT : Tr.Valid T) : RB T rev 0 x := by
  have hk : ∀ i d, Tr.kid [Tr.nul] i d = 0 := by
    intro i d
    rcases Nat.eq_zero_or_pos i with h | h
    · subst h; exact Tr.kid_nul d
    · exact Tr.kid_out (by simp; omega)
  have hv : ∀ i, Tr.val [Tr.nul] i = 0 := by
    intro i
    rcases Nat.eq_zero_or_pos i with h | h
    · subst h; rfl
    · exact Tr.val_out (by simp; omega)
  have hg : ∀ r, Tr.go [Tr.nul] 0 r ≠ none → r = [] := by
    intro r hr
    cases r with
    | nil => rfl
    | cons b r =>
      simp only [Tr.go, hk] at hr
      exact absurd rfl hr
  have hlk : ∀ r, Tr.look (tt x) r = 0 := by
    intro r
    rw [h]
    unfold Tr.look
    cases Tr.go [Tr.nul] 0 r with
    | none => rfl
    | some i => exact hv i
  have hl : x.length = 1 := by rw [← tt_length, h]; rfl
  refine ⟨⟨?_, by omega⟩, fun r _ hs => by obtain ⟨j, hj, _⟩ := hs; omega, fun r _ _ => hlk r, fun r _ hr => ?_⟩
  · rw [h]
    refine ⟨fun y hy => ?_, by simp, fun i _ => by rw [hv]; omega, fun i d h0 => absurd (hk i d) h0, fun i d j e h0 => absurd (hk i d) h0, fun k h0 h1 => ?_, ⟨fun _ => 0, rfl, fun i d h0 => absurd (hk i d) h0, fun i _ => Nat.zero_le _⟩⟩
    · rw [List.mem_singleton.1 hy]
      rfl
    · simp at h1
      omega
  · rw [h] at hr
    rw [hg r hr]
    simp [Tr.go]

theorem ent_facts {T : Tr.Trie} (hT : Tr.Valid T) {j : Nat} (h : j < (Tr.entries T).length) :
    Tr.Dig (entAt T j).1 ∧ (entAt T j).1.length ≤ 15 ∧ Tr.look T (entAt T j).1 = (entAt T j).2 ∧ 1 ≤ (entAt T j).2 ∧ (entAt T j).2 ≤ 1099511627776 ∧ Tr.go T 0 (entAt T j).1 ≠ none := by
  obtain ⟨a, b, c⟩ := (Tr.mem_entries hT _).1 (entAt_mem h)
  have b' := b
  unfold Tr.look at b'
  cases hg : Tr.go T 0 (entAt T j).1 with
  | none => rw [hg] at b'; exact absurd b'.symm c
  | some i =>
    rw [hg] at b'
    have := hT.vals i (Tr.go_lt hT hT.pos hg)
    simp only at b'
    exact ⟨a, Tr.go_len hT hg, b, by omega, by omega, by simp⟩

theorem rb_step {T : Tr.Trie} (hT : Tr.Valid T) (hTl : T.length ≤ 4096) {rev : Bool} {i : Nat} (hi : i < (Tr.entries T).length) {x : Tl} (h : RB T rev i x) (s : ByteArray) (hs : s.data.toList = (entAt T (turnI rev (Tr.entries T).length i)).1) :
    (putV x s (entAt T (turnI rev (Tr.entries T).length i)).2).2 = 0 ∧ RB T rev (i + 1) (putV x s (entAt T (turnI rev (Tr.entries T).length i)).2).1 := by
  obtain ⟨f1, f2, f3, f4, f5, f6⟩ := ent_facts hT (turnI_lt (rev := rev) hi)
  generalize he : entAt T (turnI rev (Tr.entries T).length i) = e at *
  have hp : PutOk x s e.2 := ⟨h.ok, by rw [← size_len, hs]; exact f2, by rw [hs]; exact f1, f4, f5⟩
  have hl : s.data.toList.length ≤ 15 := by rw [hs]; exact f2
  have hv := Tr.put_valid h.ok.1 hp.dig hl (by omega : 0 ≤ e.2) f5
  have hsub : ∀ r, Tr.Dig r → Tr.go (Tr.put (tt x) s.data.toList e.2) 0 r ≠ none → Tr.go T 0 r ≠ none := by
    intro r dr hr
    rcases Tr.put_nodes h.ok.1 hp.dig hl e.2 dr hr with h1 | ⟨q, hq⟩
    · exact h.sub r dr h1
    · rw [← hs, hq, Tr.go_append] at f6
      intro hn
      rw [hn] at f6
      exact f6 rfl
  have hsz := Tr.size_le hv hT hsub
  obtain ⟨g1, g2⟩ := putV_good hp (by omega)
  obtain ⟨_, g3⟩ := putV_okay g1
  have hlk : ∀ r, Tr.Dig r → Tr.look (tt (putV x s e.2).1) r = if r = e.1 then e.2 else Tr.look (tt x) r := fun r dr => by
    rw [g2, Tr.put_look h.ok.1 hp.dig hl e.2 dr, hs]
  refine ⟨g1, g3, fun r dr hsn => ?_, fun r dr hsn => ?_, fun r dr hr => by rw [g2] at hr; exact hsub r dr hr⟩
  · rw [hlk r dr]
    by_cases hre : r = e.1
    · rw [_root_.if_pos hre, hre, f3]
    · rw [_root_.if_neg hre]
      obtain ⟨j, hj, hje⟩ := hsn
      refine h.inn r dr ⟨j, ?_, hje⟩
      rcases Nat.lt_or_ge j i with hji | hji
      · exact hji
      · obtain rfl : j = i := by omega
        rw [he] at hje
        exact absurd hje.symm hre
  · have hne : r ≠ e.1 := fun hre => hsn ⟨i, by omega, by rw [he, hre]⟩
    rw [hlk r dr, _root_.if_neg hne]
    exact h.out r dr fun ⟨j, hj, hje⟩ => hsn ⟨j, by omega, hje⟩

theorem rb_end {T : Tr.Trie} (hT : Tr.Valid T) {rev : Bool} {x : Tl} (h : RB T rev (Tr.entries T).length x) : (∀ r, Tr.Dig r → Tr.look (tt x) r = Tr.look T r) := by
  intro r dr
  by_cases hs : Seen T rev (Tr.entries T).length r
  · exact h.inn r dr hs
  · rw [h.out r dr hs]
    by_cases h0 : Tr.look T r = 0
    · exact h0.symm
    · have hm := (Tr.mem_entries hT (r, Tr.look T r)).2 ⟨dr, rfl, h0⟩
      obtain ⟨m, hml, hme⟩ := List.mem_iff_getElem.1 hm
      refine absurd ⟨turnI rev (Tr.entries T).length m, turnI_lt hml, ?_⟩ hs
      rw [turnI_turn hml]
      unfold entAt
      rw [List.getD_eq_getElem?_getD, List.getElem?_eq_getElem hml, hme]
      rfl

theorem rebuild_loop (l : Tl) (ok : Ok l) (h400 : l.length ≤ 400) (a1 : ByteArray) (h40 : a1.size ≤ 40) (a2 : Bool) : ∀ (m i : Nat) (x : Tl), (Tr.entries (tt l)).length - i = m → i ≤ (Tr.entries (tt l)).length → RB (tt l) a2 i x →
    Ev (fun k => crossbarlaw07_TrieRebuild.l0 k a1 a2 ((Tr.entries (tt l)).map toS) (i : Int) l x) true := by
  have hn := entries_le ok.1
  rw [tt_length] at hn
  have hml : ((Tr.entries (tt l)).map toS).length = (Tr.entries (tt l)).length := List.length_map ..
  have hrd : ∀ j : Nat, j < (Tr.entries (tt l)).length → rd_T39 ((Tr.entries (tt l)).map toS) (j : Int) = toS (entAt (tt l) j) := by
    intro j hj
    unfold rd_T39 entAt
    rw [Int.toNat_natCast]
    simp only [List.getD_eq_getElem?_getD, List.getElem?_map, List.getElem?_eq_getElem hj, Option.map_some, Option.getD_some]
  intro m
  induction m with
  | zero =>
    intro i x hm hi h
    obtain rfl : i = (Tr.entries (tt l)).length := by omega
    have hlk := rb_end ok.1 h
    have hsz := Tr.size_le h.ok.1 ok.1 h.sub
    rw [tt_length, tt_length] at hsz
    have hent : entV x = (Tr.entries (tt l)).map toS := by
      rw [entV_ok h.ok]
      congr 1
      exact Tr.entries_congr h.ok.1 ok.1 hlk
    have hlong : longV l a1 = longV x a1 := longV_congr ok h.ok (fun r dr => (hlk r dr).symm) a1
    refine Ev.step (fun k => crossbarlaw07_TrieRebuild.l0.eq_2 _ _ _ _ _ _ k) ?_
    refine Ev.if_neg (by omega) ?_
    refine Ev.bind (Long_ev l a1 (by omega)) ?_
    refine Ev.bind (Long_ev x a1 (by omega)) ?_
    refine Ev.bind (Ent_ev x) ?_
    rw [hent, hlong]
    refine Ev.bind (SameE_refl _ (by omega)) ?_
    refine Ev.if_pos rfl ?_
    refine Ev.if_pos rfl ?_
    refine Ev.if_pos rfl ?_
    refine Ev.if_pos (beq_self_eq_true _) ?_
    exact Ev.done (by simpa using hsz)
  | succ m ih =>
    intro i x hm hi h
    have hil : i < (Tr.entries (tt l)).length := by omega
    have hT := turnI_lt (rev := a2) hil
    obtain ⟨g1, g2⟩ := rb_step ok.1 (by rw [tt_length]; omega) hil h (toS (entAt (tt l) (turnI a2 (Tr.entries (tt l)).length i))).f0 rfl
    have hnext := ih (i + 1) _ (by omega) (by omega) g2
    have hbytes : (toS (entAt (tt l) (turnI a2 (Tr.entries (tt l)).length i))).f0.size ≤ 15 := by
      rw [← size_len]
      exact (ent_facts ok.1 hT).2.1
    refine Ev.step (fun k => crossbarlaw07_TrieRebuild.l0.eq_2 _ _ _ _ _ _ k) ?_
    refine Ev.if_pos (by omega) ?_
    cases a2 with
    | true =>
      have hw : wrap64 ((wrap64 ((((Tr.entries (tt l)).map toS).length : Int) - 1)) - (i : Int)) = ((turnI true (Tr.entries (tt l)).length i : Nat) : Int) := by
        rw [hml, w64 (x := _ - 1) (by omega) (by omega), w64 (by omega) (by omega)]
        show _ = (((Tr.entries (tt l)).length - 1 - i : Nat) : Int)
        omega
      refine Ev.if_pos rfl ?_
      rw [hw]
      refine Ev.if_pos (by omega) ?_
      refine Ev.if_pos (by omega) ?_
      rw [hrd _ hT]
      refine Ev.bind (Put_ev x _ _ (by omega)) ?_
      refine Ev.if_pos g1 ?_
      rw [w64s (by omega)]
      exact hnext
    | false =>
      refine Ev.if_neg (by decide) ?_
      refine Ev.if_pos (by omega) ?_
      rw [show rd_T39 ((Tr.entries (tt l)).map toS) (i : Int) = toS (entAt (tt l) (turnI false (Tr.entries (tt l)).length i)) from hrd i hil]
      refine Ev.bind (Put_ev x _ _ (by omega)) ?_
      refine Ev.if_pos g1 ?_
      rw [w64s (by omega)]
      exact hnext

theorem rebuild_pure (l : Tl) (a1 : ByteArray) (a2 : Bool) : ∃ k, crossbarlaw07_TrieRebuild.f k l a1 a2 = some true := by
  refine Ev.rounds (g := fun k => crossbarlaw07_TrieRebuild.f k l a1 a2) ?_
  unfold crossbarlaw07_TrieRebuild.f
  refine Ev.bind (a := true) (Ev.done rfl) ?_
  refine Ev.if_pos rfl ?_
  have skip : Ev (fun k => crossbarlaw07_TrieRebuild.j0 k a1 a2 true l) true := by
    refine Ev.step (fun k => crossbarlaw07_TrieRebuild.j0.eq_2 _ _ _ _ k) ?_
    exact Ev.if_pos rfl (Ev.now _)
  by_cases h : (l.length : Int) > 400
  · exact Ev.if_pos h skip
  refine Ev.if_neg h ?_
  by_cases h1 : (a1.size : Int) > 40
  · exact Ev.if_pos h1 skip
  refine Ev.if_neg h1 ?_
  refine Ev.bind (Check_ev l) ?_
  by_cases h0 : ckv l = 0
  · have ok := ok_iff.1 h0
    rw [h0]
    refine Ev.step (fun k => crossbarlaw07_TrieRebuild.j0.eq_2 _ _ _ _ k) ?_
    refine Ev.if_neg (by decide) ?_
    refine Ev.bind (Ent_ev l) ?_
    refine Ev.bind (a := [z71]) (Ev.done rfl) ?_
    rw [entV_ok ok]
    exact rebuild_loop l ok (by omega) a1 (by omega) a2 _ 0 [z71] rfl (by omega) (rb_new _ _ _ rfl ok.1)
  · rw [show (ckv l != 0) = true by simpa using h0]
    exact skip

end Go.Proofs.YtmendieiikmbhaaDoor.Fn
