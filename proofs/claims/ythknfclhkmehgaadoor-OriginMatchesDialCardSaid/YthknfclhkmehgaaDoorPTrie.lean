/-
  PLAIN LAW: trie.Check answers OK exactly for the valid tries of at most 4096 nodes.
  PLAIN LAW: what the trie's functions return, told by the plain tries: Put, Longest, Extends.
-/
import Derived.Test.YthknfclhkmehgaaDoorEBase
import Derived.Test.YthknfclhkmehgaaDoorEPut
import Derived.Test.YthknfclhkmehgaaDoorENode
import Derived.Test.YthknfclhkmehgaaDoorELong
import Derived.Test.YthknfclhkmehgaaDoorEExt
namespace Go.Proofs.YthknfclhkmehgaaDoor.Fn
open Go.RowKit Go.Proofs.YthknfclhkmehgaaDoorW.PrintWords Go.Proofs.YthknfclhkmehgaaDoorW.PrintLast Go.Proofs.YthknfclhkmehgaaDoorW.PrintMore
set_option linter.unusedVariables false
set_option linter.unusedSimpArgs false

theorem w64 {x : Int} (h0 : -9223372036854775808 ≤ x) (h1 : x < 9223372036854775808) : wrap64 x = x := by
  unfold wrap64
  omega
theorem w64s {n : Nat} (h : n < 9223372036854775807) : wrap64 ((n : Int) + 1) = ((n + 1 : Nat) : Int) := by
  rw [w64 (by omega) (by omega)]
  omega

open Classical in
noncomputable def ckr (T : Tr.Trie) : Int := if Tr.Valid T then 0 else 1

/-- The pair (j, e) lies before (i, d). -/
def Past (i d j e : Nat) : Prop := j < i ∨ (j = i ∧ e < d)
structure CI (T : Tr.Trie) (D : List Int) (i d : Nat) : Prop where
  len : D.length = T.length
  rng : ∀ k, 0 ≤ D.getD k 0 ∧ D.getD k 0 ≤ 15
  kid : ∀ j e, Past i d j e → Tr.kid T j e ≠ 0 → (j : Int) < Tr.kid T j e ∧ Tr.kid T j e < (T.length : Int) ∧ D.getD (Tr.kid T j e).toNat 0 = D.getD j 0 + 1 ∧ D.getD j 0 < 15
  par : ∀ k, D.getD k 0 ≠ 0 → 0 < k ∧ ∃ j e, Past i d j e ∧ Tr.kid T j e = (k : Int)
  uniq : ∀ j e j' e', Past i d j e → Past i d j' e' → Tr.kid T j e ≠ 0 → Tr.kid T j e = Tr.kid T j' e' → j = j' ∧ e = e'
structure CV (T : Tr.Trie) (D : List Int) (i : Nat) : Prop where
  vals : ∀ j, j < i → 0 ≤ Tr.val T j ∧ Tr.val T j ≤ 1099511627776
  seen : ∀ j, 0 < j → j < i → D.getD j 0 ≠ 0

theorem CI.next {T : Tr.Trie} {D : List Int} {i : Nat} (ht : ∀ x ∈ T, x.kids.length = 10) (h : CI T D i 10) : CI T D (i + 1) 0 := by
  have hp : ∀ j e, Past (i + 1) 0 j e → Tr.kid T j e ≠ 0 → Past i 10 j e := by
    intro j e hpe hk
    have := Tr.kid_ten ht hk
    unfold Past at *
    omega
  have hq : ∀ j e, Past i 10 j e → Past (i + 1) 0 j e := by
    intro j e hpe
    unfold Past at *
    omega
  refine ⟨h.len, h.rng, fun j e a b => h.kid j e (hp j e a b) b, fun k hk => ?_, fun j e j' e' a b c f => h.uniq j e j' e' (hp _ _ a c) (hp _ _ b (by rw [← f]; exact c)) c f⟩
  obtain ⟨h0, j, e, a, b⟩ := h.par k hk
  exact ⟨h0, j, e, hq j e a, b⟩

theorem CI.skip {T : Tr.Trie} {D : List Int} {i d : Nat} (h : CI T D i d) (h0 : Tr.kid T i d = 0) : CI T D i (d + 1) := by
  have hp : ∀ j e, Past i (d + 1) j e → Tr.kid T j e ≠ 0 → Past i d j e := by
    intro j e hpe hk
    by_cases hc : j = i ∧ e = d
    · obtain ⟨rfl, rfl⟩ := hc; exact absurd h0 hk
    · unfold Past at *
      omega
  have hq : ∀ j e, Past i d j e → Past i (d + 1) j e := by
    intro j e hpe
    unfold Past at *
    omega
  refine ⟨h.len, h.rng, fun j e a b => h.kid j e (hp j e a b) b, fun k hk => ?_, fun j e j' e' a b c f => h.uniq j e j' e' (hp _ _ a c) (hp _ _ b (by rw [← f]; exact c)) c f⟩
  obtain ⟨h0, j, e, a, b⟩ := h.par k hk
  exact ⟨h0, j, e, hq j e a, b⟩

theorem getD_setI (D : List Int) (i : Nat) (v : Int) (j : Nat) (hi : i < D.length) : (D.set i v).getD j 0 = if i = j then v else D.getD j 0 := by
  simp only [List.getD_eq_getElem?_getD]
  by_cases h : i = j
  · subst h
    rw [List.getElem?_set_self hi, if_pos rfl]; rfl
  · rw [List.getElem?_set_ne h, if_neg h]

theorem CI.put {T : Tr.Trie} {D : List Int} {i d c : Nat} (h : CI T D i d) (hc : Tr.kid T i d = (c : Int)) (h1 : i < c) (h2 : c < T.length) (h3 : D.getD c 0 = 0) (h4 : D.getD i 0 < 15) : CI T (D.set c (D.getD i 0 + 1)) i (d + 1) := by
  have hs : ∀ j, (D.set c (D.getD i 0 + 1)).getD j 0 = if c = j then D.getD i 0 + 1 else D.getD j 0 := fun j => getD_setI D c _ j (by rw [h.len]; exact h2)
  have hp : ∀ j e, Past i (d + 1) j e → Past i d j e ∨ (j = i ∧ e = d) := by
    intro j e hpe
    unfold Past at *
    omega
  have hq : ∀ j e, Past i d j e → Past i (d + 1) j e := by
    intro j e hpe
    unfold Past at *
    omega
  have hji : ∀ j e, Past i (d + 1) j e → j ≤ i := by
    intro j e hpe
    unfold Past at *
    omega
  have hold : ∀ j e, Past i d j e → Tr.kid T j e ≠ 0 → Tr.kid T j e ≠ (c : Int) := by
    intro j e a b hh
    obtain ⟨_, _, k3, _⟩ := h.kid j e a b
    rw [hh, Int.toNat_natCast, h3] at k3
    have := (h.rng j).1
    omega
  refine ⟨by rw [List.length_set]; exact h.len, fun k => ?_, fun j e a b => ?_, fun k hk => ?_, fun j e j' e' a b x f => ?_⟩
  · rw [hs]
    split
    · have := (h.rng i).1; omega
    · exact h.rng k
  · rw [hs, hs, if_neg (show ¬ c = j by have := hji j e a; omega)]
    rcases hp j e a with a | ⟨rfl, rfl⟩
    · obtain ⟨k1, k2, k3, k4⟩ := h.kid j e a b
      refine ⟨k1, k2, ?_, k4⟩
      rw [if_neg, k3]
      intro hh
      exact hold j e a b (by omega)
    · rw [hc] at b ⊢
      refine ⟨by omega, by omega, ?_, h4⟩
      rw [Int.toNat_natCast, if_pos rfl]
  · rw [hs] at hk
    by_cases hck : c = k
    · subst hck
      exact ⟨by omega, i, d, by unfold Past; omega, hc⟩
    · rw [if_neg hck] at hk
      obtain ⟨h0, j, e, a, b⟩ := h.par k hk
      exact ⟨h0, j, e, hq j e a, b⟩
  · rcases hp j e a with a | ⟨rfl, rfl⟩
    · rcases hp j' e' b with b | ⟨rfl, rfl⟩
      · exact h.uniq j e j' e' a b x f
      · exact absurd (f.trans hc) (hold j e a x)
    · rcases hp j' e' b with b | ⟨rfl, rfl⟩
      · exact absurd (f.symm.trans hc) (hold j' e' b (by rw [← f]; exact x))
      · exact ⟨rfl, rfl⟩

theorem CI.zero {T : Tr.Trie} {D : List Int} {i d : Nat} (h : CI T D i d) : D.getD 0 0 = 0 := by
  rcases Classical.em (D.getD 0 0 = 0) with h0 | h0
  · exact h0
  · exact absurd (h.par 0 h0).1 (by omega)

theorem CI.dep {T : Tr.Trie} {D : List Int} {i d : Nat} (h : CI T D i d) (hv : Tr.Valid T) (hi : i < T.length) {dep : Nat → Nat} (h0 : dep 0 = 0) (hd : ∀ i d, Tr.kid T i d ≠ 0 → dep (Tr.kid T i d).toNat = dep i + 1) : ∀ (n j : Nat), j ≤ n → j ≤ i → D.getD j 0 = (dep j : Int) := by
  intro n
  induction n with
  | zero =>
    intro j hj _
    obtain rfl : j = 0 := by omega
    rw [h.zero, h0]; rfl
  | succ n ih =>
    intro j hj hji
    rcases Nat.eq_zero_or_pos j with hz | hz
    · subst hz
      rw [h.zero, h0]; rfl
    obtain ⟨p, e, hp⟩ := hv.par j hz (by omega)
    have hne : Tr.kid T p e ≠ 0 := by rw [hp]; omega
    have hb := hv.kids p e hne
    obtain ⟨_, _, k3, _⟩ := h.kid p e (.inl (by omega)) hne
    have k4 := hd p e hne
    rw [hp, Int.toNat_natCast] at k3 k4
    rw [k3, k4, ih p (by omega) (by omega)]
    omega

theorem CI.valid {T : Tr.Trie} {D : List Int} (ht : ∀ x ∈ T, x.kids.length = 10) (hp : 0 < T.length) (h : CI T D T.length 0) (hv : CV T D T.length) : Tr.Valid T where
  ten := ht
  pos := hp
  vals := hv.vals
  kids := fun i d hk => by
    obtain ⟨a, b, _⟩ := h.kid i d (.inl (Tr.kid_lt hk)) hk
    exact ⟨a, b⟩
  uniq := fun i d j e hk he => h.uniq i d j e (.inl (Tr.kid_lt hk)) (.inl (Tr.kid_lt (by rw [← he]; exact hk))) hk he
  par := fun k h0 hk => by
    obtain ⟨_, j, e, _, b⟩ := h.par k (hv.seen k h0 hk)
    exact ⟨j, e, b⟩
  deep := by
    refine ⟨fun j => (D.getD j 0).toNat, ?_, fun i d hk => ?_, fun i hi => ?_⟩
    · show (D.getD 0 0).toNat = 0
      rw [h.zero]; rfl
    · obtain ⟨_, _, k3, _⟩ := h.kid i d (.inl (Tr.kid_lt hk)) hk
      show (D.getD (Tr.kid T i d).toNat 0).toNat = (D.getD i 0).toNat + 1
      have := (h.rng i).1
      rw [k3]
      omega
    · have := (h.rng i).2
      show (D.getD i 0).toNat ≤ 15
      omega

theorem kid_eta (l : List S77) (i d : Nat) (hd : d < 10) : at75 (⟨(rd_T77 l (i : Int)).f0.f0, (rd_T77 l (i : Int)).f0.f1, (rd_T77 l (i : Int)).f0.f2, (rd_T77 l (i : Int)).f0.f3, (rd_T77 l (i : Int)).f0.f4, (rd_T77 l (i : Int)).f0.f5, (rd_T77 l (i : Int)).f0.f6, (rd_T77 l (i : Int)).f0.f7, (rd_T77 l (i : Int)).f0.f8, (rd_T77 l (i : Int)).f0.f9⟩ : S75) (d : Int) = Tr.kid (tt l) i d := (kid_at l i d hd).symm

abbrev CkL1 (k : Nat) (D : List Int) (l : List S77) (i : Nat) (d : Nat) : Option Int :=
  trie_Check.l1 k D (i : Int) l (l.length : Int) (i : Int) (d : Int) (rd_T77 l (i : Int)).f0.f0 (rd_T77 l (i : Int)).f0.f1 (rd_T77 l (i : Int)).f0.f2 (rd_T77 l (i : Int)).f0.f3 (rd_T77 l (i : Int)).f0.f4 (rd_T77 l (i : Int)).f0.f5 (rd_T77 l (i : Int)).f0.f6 (rd_T77 l (i : Int)).f0.f7 (rd_T77 l (i : Int)).f0.f8 (rd_T77 l (i : Int)).f0.f9 l

theorem ckr_bad {T : Tr.Trie} (h : ¬ Tr.Valid T) : ckr T = 1 := by unfold ckr; rw [if_neg h]
theorem ckr_good {T : Tr.Trie} (h : Tr.Valid T) : ckr T = 0 := by unfold ckr; rw [if_pos h]

theorem ck_inner (l : List S77) (hn : l.length ≤ 4096) (i : Nat) (hi : i < l.length)
    (next : ∀ D, CI (tt l) D (i + 1) 0 → CV (tt l) D (i + 1) → Ev (fun k => trie_Check.l0 k D l (l.length : Int) ((i + 1 : Nat) : Int) l) (ckr (tt l))) :
    ∀ (m d : Nat) (D : List Int), 10 - d = m → d ≤ 10 → CI (tt l) D i d → CV (tt l) D (i + 1) → Ev (fun k => CkL1 k D l i d) (ckr (tt l)) := by
  have hT := tt_length l
  intro m
  induction m with
  | zero =>
    intro d D hm hd hc hv
    obtain rfl : d = 10 := by omega
    obtain ⟨K, hK⟩ := next D (hc.next (tt_ten l)) hv
    refine ⟨K + 1, fun k hk => ?_⟩
    obtain ⟨k, rfl⟩ : ∃ m, k = m + 1 := ⟨k - 1, by omega⟩
    show trie_Check.l1 (k + 1) _ _ _ _ _ _ _ _ _ _ _ _ _ _ _ _ _ = _
    rw [trie_Check.l1, if_neg (by omega), w64s (by omega)]
    exact hK k (by omega)
  | succ m ih =>
    intro d D hm hd hc hv
    have hd' : d < 10 := by omega
    have hrd : ∀ x : Nat, rd D (x : Int) = D.getD x 0 := fun x => by unfold rd; rw [Int.toNat_natCast]
    have hlen : D.length = l.length := hc.len.trans hT
    have stop : ¬ Tr.Valid (tt l) → (∀ k, CkL1 (k + 1) D l i d = some 1) → Ev (fun k => CkL1 k D l i d) (ckr (tt l)) := by
      intro hbad h1
      refine ⟨1, fun k hk => ?_⟩
      obtain ⟨k, rfl⟩ : ∃ m, k = m + 1 := ⟨k - 1, by omega⟩
      rw [ckr_bad hbad]
      exact h1 k
    by_cases h0 : Tr.kid (tt l) i d = 0
    · obtain ⟨K, hK⟩ := ih (d + 1) D (by omega) (by omega) (hc.skip h0) hv
      refine ⟨K + 1, fun k hk => ?_⟩
      obtain ⟨k, rfl⟩ : ∃ m, k = m + 1 := ⟨k - 1, by omega⟩
      show trie_Check.l1 (k + 1) _ _ _ _ _ _ _ _ _ _ _ _ _ _ _ _ _ = _
      rw [trie_Check.l1, if_pos (by omega), if_pos (by omega), kid_eta l i d hd', if_pos h0, w64s (by omega)]
      exact hK k (by omega)
    by_cases h1 : Tr.kid (tt l) i d ≤ (i : Int)
    · refine stop (fun hV => ?_) (fun k => ?_)
      · have := (hV.kids i d h0).1
        omega
      · show trie_Check.l1 (k + 1) _ _ _ _ _ _ _ _ _ _ _ _ _ _ _ _ _ = _
        rw [trie_Check.l1, if_pos (by omega), if_pos (by omega), kid_eta l i d hd', if_neg h0, if_pos h1]
    by_cases h2 : Tr.kid (tt l) i d ≥ (l.length : Int)
    · refine stop (fun hV => ?_) (fun k => ?_)
      · have := (hV.kids i d h0).2
        omega
      · show trie_Check.l1 (k + 1) _ _ _ _ _ _ _ _ _ _ _ _ _ _ _ _ _ = _
        rw [trie_Check.l1, if_pos (by omega), if_pos (by omega), kid_eta l i d hd', if_neg h0, if_neg h1, if_pos h2]
    obtain ⟨c, hcc⟩ : ∃ c : Nat, Tr.kid (tt l) i d = (c : Int) := ⟨(Tr.kid (tt l) i d).toNat, by omega⟩
    have hic : i < c := by omega
    have hcl : c < l.length := by omega
    by_cases h3 : D.getD c 0 > 0
    · refine stop (fun hV => ?_) (fun k => ?_)
      · obtain ⟨_, j, e, a, b⟩ := hc.par c (by omega)
        obtain ⟨rfl, rfl⟩ := hV.uniq i d j e h0 (by rw [hcc, b])
        unfold Past at a
        omega
      · show trie_Check.l1 (k + 1) _ _ _ _ _ _ _ _ _ _ _ _ _ _ _ _ _ = _
        rw [trie_Check.l1, if_pos (by omega), if_pos (by omega), kid_eta l i d hd', if_neg h0, if_neg h1, if_neg h2, hcc, if_pos (by omega), if_pos (by omega), hrd, if_pos h3]
    by_cases h4 : D.getD i 0 = 15
    · refine stop (fun hV => ?_) (fun k => ?_)
      · obtain ⟨dep, a, b, cc⟩ := hV.deep
        have e1 := hc.dep hV (by omega) a b i i (Nat.le_refl _) (Nat.le_refl _)
        have e2 := b i d h0
        rw [hcc, Int.toNat_natCast] at e2
        have e3 := cc c (by omega)
        omega
      · show trie_Check.l1 (k + 1) _ _ _ _ _ _ _ _ _ _ _ _ _ _ _ _ _ = _
        rw [trie_Check.l1, if_pos (by omega), if_pos (by omega), kid_eta l i d hd', if_neg h0, if_neg h1, if_neg h2, hcc, if_pos (by omega), if_pos (by omega), hrd, if_neg h3, if_pos (by omega), if_pos (by omega), hrd, if_pos h4]
    have hr := hc.rng i
    have hr3 := hc.rng c
    have hc' := hc.put hcc hic (by omega) (by omega) (by omega)
    have hv' : CV (tt l) (D.set c (D.getD i 0 + 1)) (i + 1) := ⟨hv.vals, fun j a b => by
      rw [getD_setI D c _ j (by omega), if_neg (by omega)]
      exact hv.seen j a b⟩
    obtain ⟨K, hK⟩ := ih (d + 1) _ (by omega) (by omega) hc' hv'
    refine ⟨K + 1, fun k hk => ?_⟩
    obtain ⟨k, rfl⟩ : ∃ m, k = m + 1 := ⟨k - 1, by omega⟩
    show trie_Check.l1 (k + 1) _ _ _ _ _ _ _ _ _ _ _ _ _ _ _ _ _ = _
    rw [trie_Check.l1, if_pos (by omega), if_pos (by omega), kid_eta l i d hd', if_neg h0, if_neg h1, if_neg h2, hcc, if_pos (by omega), if_pos (by omega), hrd, if_neg h3, if_pos (by omega), if_pos (by omega), hrd, if_neg h4, w64s (by omega), w64 (by omega) (by omega), Int.toNat_natCast]
    exact hK k (by omega)

theorem ck_outer (l : List S77) (hp : 0 < l.length) (hn : l.length ≤ 4096) :
    ∀ (m i : Nat) (D : List Int), l.length - i = m → i ≤ l.length → CI (tt l) D i 0 → CV (tt l) D i → Ev (fun k => trie_Check.l0 k D l (l.length : Int) (i : Int) l) (ckr (tt l)) := by
  have hT := tt_length l
  intro m
  induction m with
  | zero =>
    intro i D hm hi hc hv
    obtain rfl : i = l.length := by omega
    rw [ckr_good (CI.valid (tt_ten l) (by omega) (by rw [hT]; exact hc) (by rw [hT]; exact hv))]
    refine ⟨1, fun k hk => ?_⟩
    obtain ⟨k, rfl⟩ : ∃ m, k = m + 1 := ⟨k - 1, by omega⟩
    show trie_Check.l0 (k + 1) _ _ _ _ _ = _
    rw [trie_Check.l0, if_neg (by omega)]
  | succ m ih =>
    intro i D hm hi hc hv
    have hil : i < l.length := by omega
    have hlen : D.length = l.length := hc.len.trans hT
    have hrd : ∀ x : Nat, rd D (x : Int) = D.getD x 0 := fun x => by unfold rd; rw [Int.toNat_natCast]
    have hva : (rd_T77 l (i : Int)).f1 = Tr.val (tt l) i := (val_at l i).symm
    have stop : ¬ Tr.Valid (tt l) → (∀ k, trie_Check.l0 (k + 1 + 1) D l (l.length : Int) (i : Int) l = some 1) → Ev (fun k => trie_Check.l0 k D l (l.length : Int) (i : Int) l) (ckr (tt l)) := by
      intro hbad h1
      refine ⟨2, fun k hk => ?_⟩
      obtain ⟨k, rfl⟩ : ∃ m, k = m + 1 + 1 := ⟨k - 2, by omega⟩
      rw [ckr_bad hbad]
      exact h1 k
    by_cases h1 : Tr.val (tt l) i < 0
    · refine stop (fun hV => ?_) (fun k => ?_)
      · have := (hV.vals i (by omega)).1
        omega
      · rw [trie_Check.l0, if_pos (by omega), if_pos (by omega), if_pos (by omega), hva, if_pos h1, trie_Check.j1, if_pos rfl]
    by_cases h2 : Tr.val (tt l) i > 1099511627776
    · refine stop (fun hV => ?_) (fun k => ?_)
      · have := (hV.vals i (by omega)).2
        omega
      · rw [trie_Check.l0, if_pos (by omega), if_pos (by omega), if_pos (by omega), hva, if_neg h1, if_pos h2, trie_Check.j1, if_pos rfl]
    have go : (∀ k, trie_Check.l0 (k + 1 + 1) D l (l.length : Int) (i : Int) l = CkL1 k D l i 0) → CV (tt l) D (i + 1) → Ev (fun k => trie_Check.l0 k D l (l.length : Int) (i : Int) l) (ckr (tt l)) := by
      intro h hv'
      obtain ⟨K, hK⟩ := ck_inner l hn i hil (fun D' a b => ih (i + 1) D' (by omega) (by omega) a b) 10 0 D (by omega) (by omega) hc hv'
      refine ⟨K + 2, fun k hk => ?_⟩
      obtain ⟨k, rfl⟩ : ∃ m, k = m + 1 + 1 := ⟨k - 2, by omega⟩
      exact (h k).trans (hK k (by omega))
    rcases Nat.eq_zero_or_pos i with hz | hz
    · subst hz
      refine go (fun k => ?_) ⟨fun j hj => ?_, fun j a b => by omega⟩
      · rw [trie_Check.l0, if_pos (by omega), if_pos (by omega), if_pos (by omega), hva, if_neg h1, if_neg h2, if_neg (by omega), trie_Check.j1, if_neg (by decide)]
        rfl
      · obtain rfl : j = 0 := by omega
        omega
    · by_cases h3 : D.getD i 0 = 0
      · refine stop (fun hV => ?_) (fun k => ?_)
        · obtain ⟨p, e, hp⟩ := hV.par i hz (by omega)
          have hne : Tr.kid (tt l) p e ≠ 0 := by rw [hp]; omega
          have hb := hV.kids p e hne
          obtain ⟨_, _, k3, _⟩ := hc.kid p e (.inl (by omega)) hne
          rw [hp, Int.toNat_natCast, h3] at k3
          have := (hc.rng p).1
          omega
        · rw [trie_Check.l0, if_pos (by omega), if_pos (by omega), if_pos (by omega), hva, if_neg h1, if_neg h2, if_pos (by omega), if_pos (by omega), hrd, h3, trie_Check.j1, if_pos (by rfl)]
      · refine go (fun k => ?_) ⟨fun j hj => ?_, fun j a b => ?_⟩
        · rw [trie_Check.l0, if_pos (by omega), if_pos (by omega), if_pos (by omega), hva, if_neg h1, if_neg h2, if_pos (by omega), if_pos (by omega), hrd, trie_Check.j1, if_neg (by simpa using h3)]
          rfl
        · rcases Nat.lt_or_ge j i with hh | hh
          · exact hv.vals j hh
          · obtain rfl : j = i := by omega
            omega
        · rcases Nat.lt_or_ge j i with hh | hh
          · exact hv.seen j a hh
          · obtain rfl : j = i := by omega
            exact h3

open Classical in
/-- What trie.Check answers. -/
noncomputable def ckv (l : List S77) : Int := if l.length > 4096 then 2 else ckr (tt l)
theorem Check_ev (l : List S77) : Ev (fun k => trie_Check.f k l) (ckv l) := by
  have hT := tt_length l
  unfold trie_Check.f ckv
  by_cases h : l.length > 4096
  · rw [if_pos h]
    refine ⟨0, fun k _ => ?_⟩
    dsimp only
    rw [if_pos (by omega)]
  rw [if_neg h]
  rcases Nat.eq_zero_or_pos l.length with h0 | h0
  · refine ⟨0, fun k _ => ?_⟩
    dsimp only
    rw [if_neg (by omega), if_pos (by omega), ckr_bad]
    intro hV
    have := hV.pos
    omega
  · have hD : ∀ j, (List.replicate l.length (0 : Int)).getD j 0 = 0 := fun j => by
      rw [List.getD_eq_getElem?_getD, List.getElem?_replicate]
      split <;> rfl
    obtain ⟨K, hK⟩ := ck_outer l h0 (by omega) l.length 0 (List.replicate l.length 0) (by omega) (by omega)
      ⟨by simp [hT], fun k => by rw [hD]; omega, fun j e a => by unfold Past at a; omega, fun k hk => absurd (hD k) hk, fun j e j' e' a => by unfold Past at a; omega⟩ ⟨fun j hj => by omega, fun j a b => by omega⟩
    refine ⟨K, fun k hk => ?_⟩
    dsimp only
    rw [if_neg (by omega), if_neg (by omega), if_pos (by omega), Int.toNat_natCast, if_pos (by omega)]
    exact hK k hk
theorem ckv_zero {l : List S77} : ckv l = 0 ↔ Tr.Valid (tt l) ∧ l.length ≤ 4096 := by
  unfold ckv
  split
  · constructor
    · intro h; cases h
    · rintro ⟨_, h⟩; omega
  · unfold ckr
    split
    · exact ⟨fun _ => ⟨by assumption, by omega⟩, fun _ => rfl⟩
    · constructor
      · intro h; cases h
      · rintro ⟨h, _⟩; contradiction

end Go.Proofs.YthknfclhkmehgaaDoor.Fn
namespace Go.Proofs.YthknfclhkmehgaaDoor.Fn
open Go.RowKit Go.Proofs.YthknfclhkmehgaaDoorW.PrintWords Go.Proofs.YthknfclhkmehgaaDoorW.PrintLast Go.Proofs.YthknfclhkmehgaaDoorW.PrintMore
set_option linter.unusedVariables false
set_option linter.unusedSimpArgs false

theorem Ev.if_pos {α : Type} {c : Prop} [Decidable c] {f g : Nat → Option α} {r : α} (hc : c) (h : Ev f r) : Ev (fun k => if c then f k else g k) r := Ev.congr (fun _ => _root_.if_pos hc) h
theorem Ev.if_neg {α : Type} {c : Prop} [Decidable c] {f g : Nat → Option α} {r : α} (hc : ¬ c) (h : Ev g r) : Ev (fun k => if c then f k else g k) r := Ev.congr (fun _ => _root_.if_neg hc) h
theorem Ev.done {α : Type} {a r : α} (h : a = r) : Ev (fun _ => some a) r := by subst h; exact Ev.now _

abbrev Tl := List S77

theorem bytes_list (b : ByteArray) : b.toList = b.data.toList := by
  unfold ByteArray.toList
  have key : ∀ (n i : Nat) (r : List UInt8), b.size - i = n → ByteArray.toList.loop b i r = r.reverse ++ b.data.toList.drop i := by
    intro n
    induction n with
    | zero =>
      intro i r h
      rw [ByteArray.toList.loop, if_neg (by omega), List.drop_eq_nil_of_le (by simp only [Array.length_toList]; show b.size ≤ i; omega), List.append_nil]
    | succ n ih =>
      intro i r h
      rw [ByteArray.toList.loop, if_pos (by omega), ih (i+1) _ (by omega)]
      have hi : i < b.data.toList.length := by simp only [Array.length_toList]; show i < b.size; omega
      rw [List.drop_eq_getElem_cons hi, List.reverse_cons, List.append_assoc]
      have : b.get! i = b.data.toList[i] := by
        show b.data[i]! = _
        rw [getElem!_pos b.data i (by simpa using hi)]
        simp
      rw [this]
      rfl
  have := key b.size 0 [] (by omega)
  simpa using this
theorem bytes_inj {a b : ByteArray} (h : a.data.toList = b.data.toList) : a = b := by
  obtain ⟨⟨x⟩⟩ := a
  obtain ⟨⟨y⟩⟩ := b
  simp only at h
  rw [h]
theorem size_len (s : ByteArray) : s.data.toList.length = s.size := by rw [Array.length_toList]; rfl

def Ok (l : Tl) : Prop := Tr.Valid (tt l) ∧ l.length ≤ 4096
theorem ok_iff {l : Tl} : ckv l = 0 ↔ Ok l := ckv_zero
theorem Check_ok {l : Tl} (h : Ok l) : Ev (fun k => trie_Check.f k l) 0 := by
  have := Check_ev l
  rwa [ckv_zero.2 h] at this
theorem inn_valid {T : Tr.Trie} (h : Tr.Valid T) : Inn T := by
  intro i d hi hd
  by_cases h0 : Tr.kid T i d = 0
  · rw [h0]
    have := h.pos
    omega
  · have := h.kids i d h0
    omega
theorem good_ok {l : Tl} (h : Ok l) : Good l := ⟨inn_valid h.1, by have := h.1.pos; rw [tt_length] at this; exact this, h.2⟩

/-! ### checked -/
noncomputable def chkV (l : Tl) (s : ByteArray) : Int := if ckv l = 0 then (if s.size ≤ 15 ∧ digB s = true then 0 else 60) else ckv l
theorem chkV_zero {l : Tl} {s : ByteArray} : chkV l s = 0 ↔ Ok l ∧ s.size ≤ 15 ∧ Tr.Dig s.data.toList := by
  unfold chkV
  rw [← digB_iff]
  constructor
  · intro h
    split at h
    · rename_i h0
      split at h
      · rename_i h1
        exact ⟨ok_iff.1 h0, h1⟩
      · cases h
    · contradiction
  · rintro ⟨h0, h1⟩
    rw [if_pos (ok_iff.2 h0), if_pos h1]
theorem checked_ev (l : Tl) (s : ByteArray) (hs : s.size ≤ 9223372036854775807) : Ev (fun k => trie_checked.f k l s) (chkV l s) := by
  unfold trie_checked.f
  refine Ev.bind (Check_ev l) ⟨0, fun k _ => ?_⟩
  dsimp only
  unfold chkV
  by_cases h : ckv l = 0
  · rw [if_pos h, if_pos h]
    by_cases h1 : s.size ≤ 15
    · rw [if_neg (by omega)]
      unfold trie_digits.f
      rw [if_pos hs, Option.bind_some]
      cases hd : digB s
      · rw [if_neg (by decide), if_neg (by simp)]
      · rw [if_pos rfl, if_pos ⟨h1, rfl⟩]
    · rw [if_pos (by omega), if_neg (fun hh => h1 hh.1)]
  · rw [if_neg h, if_neg h]

/-! ### Put -/
theorem growS_tt : ∀ (s : List UInt8) (ns : Tl) (a : Nat), Tr.Dig s → Inn (tt ns) → a < ns.length →
    tt (growS ns (a : Int) s).1 = (Tr.grow (tt ns) a s).1 ∧ (growS ns (a : Int) s).2 = ((Tr.grow (tt ns) a s).2 : Int)
  | [], ns, a, _, _, _ => ⟨rfl, rfl⟩
  | b :: s, ns, a, hd, hi, ha => by
    have hb : Tr.IsDig b := hd b (List.mem_cons_self ..)
    have hb10 : Tr.dgt b < 10 := by unfold Tr.dgt; unfold Tr.IsDig at hb; omega
    have hd' : Tr.Dig s := fun c hc => hd c (List.mem_cons_of_mem _ hc)
    simp only [growS, Tr.grow, Int.toNat_natCast]
    by_cases h0 : Tr.kid (tt ns) a (Tr.dgt b) = 0
    · rw [if_pos h0, if_pos h0]
      have h1 := tt_sprout ns a (Tr.dgt b) hb10
      have h2 := inn_sprout hi ha hb10
      have h3 := growS_tt s _ ns.length hd' h2 (by simp)
      rw [h1] at h3
      rw [tt_length]
      exact h3
    · rw [if_neg h0, if_neg h0]
      have hr := hi a (Tr.dgt b) (by rw [tt_length]; exact ha) hb10
      rw [tt_length] at hr
      obtain ⟨c, hc⟩ : ∃ c : Nat, Tr.kid (tt ns) a (Tr.dgt b) = (c : Int) := ⟨(Tr.kid (tt ns) a (Tr.dgt b)).toNat, by omega⟩
      rw [hc, Int.toNat_natCast]
      exact growS_tt s ns c hd' hi (by omega)

theorem tn_setVl (x : S77) (v : Int) : tn (setVl x v) = ⟨(tn x).kids, v⟩ := rfl
theorem tt_setVl (l : Tl) (i : Nat) (v : Int) : tt (l.set i (setVl (rd_T77 l (i : Int)) v)) = Tr.setVal (tt l) i v := by
  rw [tt_set, tn_setVl]
  unfold Tr.setVal
  rw [tt_getD]
  rfl

noncomputable def putV (l : Tl) (s : ByteArray) (v : Int) : Tl × Int :=
  if chkV l s ≠ 0 then ([], chkV l s) else if v < 1 ∨ v > 1099511627776 then ([], 1) else
    if (growS l 0 s.data.toList).1.length > 4096 then ([], 2) else ((growS l 0 s.data.toList).1.set (growS l 0 s.data.toList).2.toNat (setVl (rd_T77 (growS l 0 s.data.toList).1 (growS l 0 s.data.toList).2) v), 0)
theorem Put_ev (l : Tl) (s : ByteArray) (v : Int) (hs : s.size ≤ 9223372036854775807) : Ev (fun k => trie_Put.f k l s v) (putV l s v) := by
  unfold trie_Put.f
  refine Ev.bind (checked_ev l s hs) ⟨0, fun k _ => ?_⟩
  dsimp only
  unfold putV
  by_cases h : chkV l s ≠ 0
  · rw [if_pos h, if_pos h]
  · rw [if_neg h, if_neg h]
    by_cases h2 : v < 1 ∨ v > 1099511627776
    · rw [if_pos h2, if_pos h2]
    · rw [if_neg h2, if_neg h2]
      obtain ⟨a, b, c⟩ := chkV_zero.1 (Classical.not_not.1 h)
      rw [if_pos ⟨good_ok a, ⟨hs, c⟩, b⟩]
      by_cases h3 : (growS l 0 s.data.toList).1.length > 4096
      · rw [if_pos h3, if_pos h3]
      · rw [if_neg h3, if_neg h3]

theorem grow_len {l : Tl} (ok : Ok l) {p : List UInt8} (hd : Tr.Dig p) : tt (growS l 0 p).1 = (Tr.grow (tt l) 0 p).1 ∧ (growS l 0 p).2 = ((Tr.grow (tt l) 0 p).2 : Int) ∧ (growS l 0 p).1.length = (Tr.put (tt l) p 0).length := by
  have h := growS_tt p l 0 hd (inn_valid ok.1) (by have := ok.1.pos; rw [tt_length] at this; exact this)
  refine ⟨h.1, h.2, ?_⟩
  rw [← tt_length]
  show List.length (tt (growS l ((0 : Nat) : Int) p).1) = _
  rw [h.1]
  unfold Tr.put
  rw [Tr.length_setVal]
theorem put_len (T : Tr.Trie) (p : List UInt8) (v w : Int) : (Tr.put T p v).length = (Tr.put T p w).length := by
  unfold Tr.put
  rw [Tr.length_setVal, Tr.length_setVal]

/-- The arguments of an update are good. -/
structure PutOk (l : Tl) (s : ByteArray) (v : Int) : Prop where
  ok : Ok l
  len : s.size ≤ 15
  dig : Tr.Dig s.data.toList
  lo : 1 ≤ v
  hi : v ≤ 1099511627776
theorem putV_good {l : Tl} {s : ByteArray} {v : Int} (h : PutOk l s v) (hl : (Tr.put (tt l) s.data.toList v).length ≤ 4096) :
    (putV l s v).2 = 0 ∧ tt (putV l s v).1 = Tr.put (tt l) s.data.toList v := by
  have hg := grow_len h.ok h.dig
  have hn : ¬ (growS l 0 s.data.toList).1.length > 4096 := by
    rw [hg.2.2, put_len _ _ 0 v]
    omega
  unfold putV
  rw [if_neg (fun hh => hh (chkV_zero.2 ⟨h.ok, h.len, h.dig⟩)), if_neg (by have := h.lo; have := h.hi; omega), if_neg hn]
  refine ⟨rfl, ?_⟩
  rw [hg.2.1, Int.toNat_natCast, tt_setVl, hg.1]
  rfl
theorem putV_full {l : Tl} {s : ByteArray} {v : Int} (h : PutOk l s v) (hl : 4096 < (Tr.put (tt l) s.data.toList v).length) : putV l s v = ([], 2) := by
  have hg := grow_len h.ok h.dig
  have hn : (growS l 0 s.data.toList).1.length > 4096 := by
    rw [hg.2.2, put_len _ _ 0 v]
    omega
  unfold putV
  rw [if_neg (fun hh => hh (chkV_zero.2 ⟨h.ok, h.len, h.dig⟩)), if_neg (by have := h.lo; have := h.hi; omega), if_pos hn]
theorem putV_zero {l : Tl} {s : ByteArray} {v : Int} (h : (putV l s v).2 = 0) : PutOk l s v ∧ (Tr.put (tt l) s.data.toList v).length ≤ 4096 := by
  have h1 : chkV l s = 0 := by
    rcases Classical.em (chkV l s = 0) with h1 | h1
    · exact h1
    · unfold putV at h
      rw [if_pos h1] at h
      exact h
  have h2 : ¬ (v < 1 ∨ v > 1099511627776) := by
    intro hh
    unfold putV at h
    rw [if_neg (fun x => x h1), if_pos hh] at h
    cases h
  obtain ⟨a, b, c⟩ := chkV_zero.1 h1
  have hp : PutOk l s v := ⟨a, b, c, by omega, by omega⟩
  refine ⟨hp, ?_⟩
  rcases Nat.lt_or_ge 4096 (Tr.put (tt l) s.data.toList v).length with h3 | h3
  · rw [putV_full hp h3] at h
    cases h
  · exact h3
theorem putV_nil {l : Tl} {s : ByteArray} {v : Int} (h : (putV l s v).2 ≠ 0) : (putV l s v).1 = [] := by
  unfold putV at h ⊢
  split
  · rfl
  · rename_i h1
    rw [if_neg h1] at h
    split
    · rfl
    · rename_i h2
      rw [if_neg h2] at h
      split
      · rfl
      · rename_i h3
        rw [if_neg h3] at h
        exact absurd rfl h
theorem putV_okay {l : Tl} {s : ByteArray} {v : Int} (h : (putV l s v).2 = 0) : tt (putV l s v).1 = Tr.put (tt l) s.data.toList v ∧ Ok (putV l s v).1 := by
  obtain ⟨hp, hl⟩ := putV_zero h
  have h1 := (putV_good hp hl).2
  refine ⟨h1, ?_, ?_⟩
  · rw [h1]
    exact Tr.put_valid hp.ok.1 hp.dig (by rw [size_len]; exact hp.len) (by have := hp.lo; omega) hp.hi
  · rw [← tt_length, h1]
    exact hl

/-! ### the node of a string -/
theorem lastW_cons (x : Nat × Nat) (l : List (Nat × Nat)) (h : l ≠ []) : lastW (x :: l) = lastW l := by
  cases l with
  | nil => exact absurd rfl h
  | cons y l => rfl
theorem lastW_way (T : Tr.Trie) : ∀ (s : Tr.Str) (i n : Nat), (∃ j, Tr.go T i s = some j ∧ lastW (Tr.way T i n s) = (n + s.length, j)) ∨ (Tr.go T i s = none ∧ (lastW (Tr.way T i n s)).1 < n + s.length)
  | [], i, n => .inl ⟨i, rfl, rfl⟩
  | b :: s, i, n => by
    simp only [Tr.go, Tr.way]
    by_cases h : Tr.kid T i (Tr.dgt b) = 0
    · rw [if_pos h, if_pos h]
      refine .inr ⟨rfl, ?_⟩
      show n < n + (s.length + 1)
      omega
    · rw [if_neg h, if_neg h, lastW_cons _ _ (way_ne _ _ _ _)]
      rcases lastW_way T s (Tr.kid T i (Tr.dgt b)).toNat (n + 1) with ⟨j, h1, h2⟩ | ⟨h1, h2⟩
      · exact .inl ⟨j, h1, by rw [h2, List.length_cons]; congr 1; omega⟩
      · exact .inr ⟨h1, by rw [List.length_cons]; omega⟩
theorem node_some {l : Tl} {s : ByteArray} (k : Nat) (ok : Ok l) (hs : s.size ≤ 9223372036854775807) (hd : Tr.Dig s.data.toList) {j : Nat} (h : Tr.go (tt l) 0 s.data.toList = some j) : trie_node.f k l s = some ((j : Int), true) := by
  unfold trie_node.f
  rw [if_pos ⟨good_ok ok, hs, hd⟩]
  rcases lastW_way (tt l) s.data.toList 0 0 with ⟨j', h1, h2⟩ | ⟨h1, _⟩
  · rw [h] at h1
    cases h1
    rw [h2, Nat.zero_add, size_len]
    simp
  · rw [h] at h1
    cases h1
theorem node_none {l : Tl} {s : ByteArray} (k : Nat) (ok : Ok l) (hs : s.size ≤ 9223372036854775807) (hd : Tr.Dig s.data.toList) (h : Tr.go (tt l) 0 s.data.toList = none) : ∃ x, trie_node.f k l s = some (x, false) := by
  unfold trie_node.f
  rw [if_pos ⟨good_ok ok, hs, hd⟩]
  rcases lastW_way (tt l) s.data.toList 0 0 with ⟨j', h1, h2⟩ | ⟨_, h2⟩
  · rw [h] at h1
    cases h1
  · refine ⟨((lastW (Tr.way (tt l) 0 0 s.data.toList)).2 : Int), ?_⟩
    rw [size_len] at h2
    rw [decide_eq_false (by omega)]

/-! ### Longest -/
noncomputable def longV (l : Tl) (s : ByteArray) : Int × Int × Bool := if ckv l ≠ 0 then (0, 0, false) else if digB s = false then (0, 0, false) else foundL (tt l) (Tr.way (tt l) 0 0 s.data.toList)
theorem Long_ev (l : Tl) (s : ByteArray) (hs : s.size ≤ 9223372036854775807) : Ev (fun k => trie_Longest.f k l s) (longV l s) := by
  unfold trie_Longest.f
  refine Ev.bind (Check_ev l) ⟨0, fun k _ => ?_⟩
  dsimp only
  unfold longV
  by_cases h : ckv l ≠ 0
  · rw [if_pos h, if_pos h]
  · rw [if_neg h, if_neg h]
    unfold trie_digits.f
    rw [if_pos hs, Option.bind_some]
    cases hd : digB s
    · rw [if_pos rfl, if_pos rfl]
    · rw [if_neg (by decide), if_pos ⟨good_ok (ok_iff.1 (Classical.not_not.1 h)), hs, (digB_iff s).1 hd⟩, if_neg (by decide)]
theorem longV_of {l : Tl} {s : ByteArray} (ok : Ok l) (hd : Tr.Dig s.data.toList) : (∃ v n, Tr.Best (tt l) s.data.toList v n ∧ longV l s = (v, (n : Int), true)) ∨ (Tr.NoBest (tt l) s.data.toList ∧ longV l s = (0, 0, false)) := by
  have hl : longV l s = foundL (tt l) (Tr.way (tt l) 0 0 s.data.toList) := by
    unfold longV
    rw [if_neg (fun hh => hh (ok_iff.2 ok)), if_neg (by rw [(digB_iff s).2 hd]; decide)]
  obtain ⟨h1, h2⟩ := Tr.last_way (tt l) s.data.toList
  rw [hl]
  unfold foundL
  cases hw : Tr.last (tt l) (Tr.way (tt l) 0 0 s.data.toList) with
  | none => exact .inr ⟨h2 hw, rfl⟩
  | some x => exact .inl ⟨_, x.1, h1 x.1 x.2 hw, rfl⟩
theorem longV_bad {l : Tl} {s : ByteArray} (h : ¬ (Ok l ∧ Tr.Dig s.data.toList)) : longV l s = (0, 0, false) := by
  unfold longV
  by_cases h0 : ckv l ≠ 0
  · rw [if_pos h0]
  · rw [if_neg h0]
    cases hd : digB s
    · rw [if_pos rfl]
    · exact absurd ⟨ok_iff.1 (Classical.not_not.1 h0), (digB_iff s).1 hd⟩ h
/-- Two tries that store the same have the same longest prefixes. -/
theorem longV_congr {l m : Tl} (hl : Ok l) (hm : Ok m) (h : ∀ r, Tr.Dig r → Tr.look (tt l) r = Tr.look (tt m) r) (s : ByteArray) : longV l s = longV m s := by
  by_cases hd : Tr.Dig s.data.toList
  · rcases longV_of hl hd with ⟨v, n, b, e⟩ | ⟨b, e⟩
    · have b' := Tr.best_congr hd h b
      rcases longV_of hm hd with ⟨w, m', c, f⟩ | ⟨c, f⟩
      · obtain ⟨rfl, rfl⟩ := b'.unique c
        rw [e, f]
      · exact (b'.not_none c).elim
    · have b' := Tr.noBest_congr hd h b
      rcases longV_of hm hd with ⟨w, m', c, f⟩ | ⟨c, f⟩
      · exact (c.not_none b').elim
      · rw [e, f]
  · rw [longV_bad (fun hh => hd hh.2), longV_bad (fun hh => hd hh.2)]

/-! ### Extends -/
noncomputable def extV (l : Tl) (s : ByteArray) : Bool := if ckv l ≠ 0 then false else if digB s = false then false else
  match Tr.go (tt l) 0 s.data.toList with
  | none => false
  | some i => longerE (Tr.ents (tt l) (16 - s.size) i s.data.toList) s.size
theorem deep_valid {l : Tl} (ok : Ok l) : ∃ dep, Deep l dep ∧ dep 0 = 0 ∧ ∀ i d, Tr.kid (tt l) i d ≠ 0 → dep (Tr.kid (tt l) i d).toNat = dep i + 1 := by
  obtain ⟨dep, h0, h1, h2⟩ := ok.1.deep
  exact ⟨dep, ⟨fun i d _ _ hk => h1 i d hk, fun i hi => h2 i (by rw [tt_length]; exact hi)⟩, h0, h1⟩
theorem Ext_ev (l : Tl) (s : ByteArray) (hs : s.size ≤ 9223372036854775807) : Ev (fun k => trie_Extends.f k l s) (extV l s) := by
  unfold trie_Extends.f
  refine Ev.bind (Check_ev l) ⟨0, fun k _ => ?_⟩
  dsimp only
  unfold extV
  by_cases h : ckv l ≠ 0
  · rw [if_pos h, if_pos h]
  · rw [if_neg h, if_neg h]
    have ok := ok_iff.1 (Classical.not_not.1 h)
    unfold trie_digits.f
    rw [if_pos hs, Option.bind_some]
    cases hd : digB s
    · rw [if_pos rfl, if_pos rfl]
    · have hdg := (digB_iff s).1 hd
      rw [if_neg (by decide), if_neg (by decide)]
      cases hg : Tr.go (tt l) 0 s.data.toList with
      | none =>
        obtain ⟨x, hx⟩ := node_none k ok hs hdg hg
        rw [hx, Option.bind_some, if_pos rfl]
      | some i =>
        obtain ⟨dep, h1, h2, h3⟩ := deep_valid ok
        have h4 := Tr.go_depth h3 hg
        rw [size_len, h2, Nat.zero_add] at h4
        have h5 := Tr.go_lt ok.1 ok.1.pos hg
        rw [tt_length] at h5
        rw [node_some k ok hs hdg hg, Option.bind_some, if_neg (by simp), if_pos ⟨dep, h1, by rw [Int.toNat_natCast]; exact h4, by simpa using h5, good_ok ok⟩, Int.toNat_natCast]
theorem extV_iff {l : Tl} {s : ByteArray} (ok : Ok l) (hd : Tr.Dig s.data.toList) : extV l s = true ↔ ∃ e ∈ Tr.entries (tt l), ∃ q, q ≠ [] ∧ e.1 = s.data.toList ++ q := by
  unfold extV
  rw [if_neg (fun hh => hh (ok_iff.2 ok)), if_neg (by rw [(digB_iff s).2 hd]; decide)]
  constructor
  · intro h
    cases hg : Tr.go (tt l) 0 s.data.toList with
    | none => rw [hg] at h; cases h
    | some i =>
      rw [hg] at h
      simp only [longerE, List.any_eq_true, decide_eq_true_eq] at h
      obtain ⟨e, he, hl⟩ := h
      obtain ⟨r, j, dr, h1, h2, h3, h4, h5⟩ := (Tr.mem_ents _ _ _ _).1 he
      refine ⟨e, (Tr.mem_entries ok.1 e).2 ⟨?_, ?_, h4⟩, r, ?_, h1⟩
      · rw [h1]; exact hd.append dr
      · unfold Tr.look
        rw [h1, Tr.go_append, hg, Option.bind_some, h2]
        exact h3
      · rintro rfl
        rw [h1, List.append_nil, size_len] at hl
        omega
  · rintro ⟨e, he, q, hq, h1⟩
    obtain ⟨a, b, c⟩ := (Tr.mem_entries ok.1 e).1 he
    unfold Tr.look at b
    cases hg2 : Tr.go (tt l) 0 e.1 with
    | none => rw [hg2] at b; exact absurd b.symm c
    | some j =>
      rw [hg2] at b
      have hlen := Tr.go_len ok.1 hg2
      rw [h1, List.length_append, size_len] at hlen
      rw [h1, Tr.go_append] at hg2
      cases hg : Tr.go (tt l) 0 s.data.toList with
      | none => rw [hg] at hg2; cases hg2
      | some i =>
        rw [hg, Option.bind_some] at hg2
        simp only [longerE, List.any_eq_true, decide_eq_true_eq]
        refine ⟨e, (Tr.mem_ents _ _ _ _).2 ⟨q, j, ?_, h1, hg2, b, c, by omega⟩, ?_⟩
        · rw [h1] at a; exact a.right
        · rw [h1, List.length_append, size_len]
          have : 0 < q.length := List.length_pos_iff.2 hq
          omega
theorem extV_bad {l : Tl} {s : ByteArray} (h : ¬ (Ok l ∧ Tr.Dig s.data.toList)) : extV l s = false := by
  unfold extV
  by_cases h0 : ckv l ≠ 0
  · rw [if_pos h0]
  · rw [if_neg h0]
    cases hd : digB s
    · rw [if_pos rfl]
    · exact absurd ⟨ok_iff.1 (Classical.not_not.1 h0), (digB_iff s).1 hd⟩ h

end Go.Proofs.YthknfclhkmehgaaDoor.Fn
