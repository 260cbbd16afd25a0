/-
  PLAIN LAW: the reference's digit test.
  PLAIN LAW: the reference's Check, node, Longest, below, Extends and Entries say what the trie's say.
-/
import Derived.Test.YtmendieiikmbhaaDoorPTrie
import Derived.Test.YtmendieiikmbhaaDoorFn6
namespace Go.Proofs.YtmendieiikmbhaaDoor.Fn
open Go.RowKit Go.Proofs.YtmendieiikmbhaaDoorW.PrintWords Go.Proofs.YtmendieiikmbhaaDoorW.PrintLast Go.Proofs.YtmendieiikmbhaaDoorW.PrintMore
set_option linter.unusedVariables false
set_option linter.unusedSimpArgs false

theorem bt_at (s : ByteArray) (i : Nat) (hi : i < s.size) : bt s (i : Int) = ((s[i]).toNat : Int) := by
  unfold bt
  rw [Int.toNat_natCast, dif_pos hi]
theorem dig_iff (b : UInt8) : (decide (48 ≤ b.toNat) && decide (b.toNat ≤ 57)) = true ↔ Tr.IsDig b := by
  simp [Tr.IsDig]
theorem digits_ref_loop (s : ByteArray) (hs : s.size < 9223372036854775807) : ∀ (m i : Nat), s.size - i = m → i ≤ s.size →
    Ev (fun k => crossbarref07_Digits.l0 k s (i : Int)) ((s.data.toList.drop i).all fun b => decide (48 ≤ b.toNat) && decide (b.toNat ≤ 57)) := by
  intro m
  induction m with
  | zero =>
    intro i hm hi
    obtain rfl : i = s.size := by omega
    rw [List.drop_eq_nil_of_le (by rw [size_len]; omega)]
    refine Ev.step (fun k => crossbarref07_Digits.l0.eq_2 _ _ k) ?_
    exact Ev.if_neg (by omega) (Ev.now _)
  | succ m ih =>
    intro i hm hi
    have hil : i < s.size := by omega
    rw [strByte s i hil, List.all_cons]
    refine Ev.step (fun k => crossbarref07_Digits.l0.eq_2 _ _ k) ?_
    refine Ev.if_pos (by omega) ?_
    refine Ev.if_pos (by omega) ?_
    rw [bt_at s i hil]
    by_cases h1 : (s[i].toNat : Int) < 48
    · rw [decide_eq_false (by omega : ¬ 48 ≤ s[i].toNat), Bool.false_and, Bool.false_and]
      exact Ev.if_pos h1 (Ev.now _)
    refine Ev.if_neg h1 ?_
    rw [decide_eq_true (by omega : 48 ≤ s[i].toNat), Bool.true_and]
    by_cases h2 : (s[i].toNat : Int) > 57
    · rw [decide_eq_false (by omega : ¬ s[i].toNat ≤ 57), Bool.false_and]
      exact Ev.if_pos h2 (Ev.now _)
    refine Ev.if_neg h2 ?_
    rw [decide_eq_true (by omega : s[i].toNat ≤ 57), Bool.true_and, w64s (by omega)]
    exact ih (i + 1) (by omega) (by omega)
theorem Digits_ref (s : ByteArray) (hs : s.size < 9223372036854775807) : Ev (fun k => crossbarref07_Digits.f k s) (digB s) := by
  have := digits_ref_loop s hs s.size 0 (by omega) (by omega)
  exact this

end Go.Proofs.YtmendieiikmbhaaDoor.Fn
namespace Go.Proofs.YtmendieiikmbhaaDoor.Fn
open Go.RowKit Go.Proofs.YtmendieiikmbhaaDoorW.PrintWords Go.Proofs.YtmendieiikmbhaaDoorW.PrintLast Go.Proofs.YtmendieiikmbhaaDoorW.PrintMore
set_option linter.unusedVariables false
set_option linter.unusedSimpArgs false

/-! ### Check -/
structure VI (T : Tr.Trie) (Pa De : List Int) (i d : Nat) : Prop where
  lenP : Pa.length = T.length
  lenD : De.length = T.length
  bigP : ∀ k, 0 ≤ Pa.getD k 0 ∧ Pa.getD k 0 ≤ 10 * i + d
  bigD : ∀ k, 0 ≤ De.getD k 0 ∧ De.getD k 0 ≤ k
  kid : ∀ j e, Past i d j e → Tr.kid T j e ≠ 0 → (j : Int) < Tr.kid T j e ∧ Tr.kid T j e < (T.length : Int)
  none : ∀ k, 0 < k → Pa.getD k 0 = 0 → ∀ j e, Past i d j e → Tr.kid T j e ≠ (k : Int)
  one : ∀ k, Pa.getD k 0 = 1 → ∃ j e, Past i d j e ∧ Tr.kid T j e = (k : Int) ∧ De.getD k 0 = De.getD j 0 + 1 ∧ ∀ j' e', Past i d j' e' → Tr.kid T j' e' = (k : Int) → j' = j ∧ e' = e
  two : ∀ k, 1 < Pa.getD k 0 → ∃ j e j' e', Tr.kid T j e = (k : Int) ∧ Tr.kid T j' e' = (k : Int) ∧ ¬ (j = j' ∧ e = e')
  root : Pa.getD 0 0 = 0 ∧ De.getD 0 0 = 0

theorem past_next {T : Tr.Trie} {i j e : Nat} (ht : ∀ x ∈ T, x.kids.length = 10) (hk : Tr.kid T j e ≠ 0) : Past (i + 1) 0 j e ↔ Past i 10 j e := by
  have := Tr.kid_ten ht hk
  unfold Past
  omega
theorem past_one {i d j e : Nat} : Past i (d + 1) j e ↔ Past i d j e ∨ (j = i ∧ e = d) := by
  unfold Past
  omega

theorem VI.next {T : Tr.Trie} {Pa De : List Int} {i : Nat} (ht : ∀ x ∈ T, x.kids.length = 10) (h : VI T Pa De i 10) : VI T Pa De (i + 1) 0 := by
  refine ⟨h.lenP, h.lenD, fun k => ?_, h.bigD, fun j e a b => h.kid j e ((past_next ht b).1 a) b, fun k h0 hk j e a b => ?_, fun k hk => ?_, h.two, h.root⟩
  · have := h.bigP k
    omega
  · exact h.none k h0 hk j e ((past_next ht (by rw [b]; omega)).1 a) b
  · obtain ⟨j, e, a, b, c, f⟩ := h.one k hk
    have h0 : 0 < k := by
      rcases Nat.eq_zero_or_pos k with hz | hz
      · subst hz
        rw [h.root.1] at hk
        cases hk
      · exact hz
    exact ⟨j, e, (past_next ht (by rw [b]; omega)).2 a, b, c, fun j' e' a' b' => f j' e' ((past_next ht (by rw [b']; omega)).1 a') b'⟩

theorem VI.skip {T : Tr.Trie} {Pa De : List Int} {i d : Nat} (h : VI T Pa De i d) (h0 : Tr.kid T i d = 0) : VI T Pa De i (d + 1) := by
  have hp : ∀ j e, Past i (d + 1) j e → Tr.kid T j e ≠ 0 → Past i d j e := by
    intro j e a b
    rcases past_one.1 a with a | ⟨rfl, rfl⟩
    · exact a
    · exact absurd h0 b
  refine ⟨h.lenP, h.lenD, fun k => ?_, h.bigD, fun j e a b => h.kid j e (hp j e a b) b, fun k hk0 hk j e a b => ?_, fun k hk => ?_, h.two, h.root⟩
  · have := h.bigP k
    omega
  · exact h.none k hk0 hk j e (hp j e a (by rw [b]; omega)) b
  · obtain ⟨j, e, a, b, c, f⟩ := h.one k hk
    have hk0 : 0 < k := by
      rcases Nat.eq_zero_or_pos k with hz | hz
      · subst hz
        rw [h.root.1] at hk
        cases hk
      · exact hz
    exact ⟨j, e, past_one.2 (.inl a), b, c, fun j' e' a' b' => f j' e' (hp j' e' a' (by rw [b']; omega)) b'⟩

theorem VI.put {T : Tr.Trie} {Pa De : List Int} {i d c : Nat} (h : VI T Pa De i d) (hc : Tr.kid T i d = (c : Int)) (h1 : i < c) (h2 : c < T.length) : VI T (Pa.set c (Pa.getD c 0 + 1)) (De.set c (De.getD i 0 + 1)) i (d + 1) := by
  have hP : ∀ j, (Pa.set c (Pa.getD c 0 + 1)).getD j 0 = if c = j then Pa.getD c 0 + 1 else Pa.getD j 0 := fun j => getD_setI Pa c _ j (by rw [h.lenP]; exact h2)
  have hD : ∀ j, (De.set c (De.getD i 0 + 1)).getD j 0 = if c = j then De.getD i 0 + 1 else De.getD j 0 := fun j => getD_setI De c _ j (by rw [h.lenD]; exact h2)
  have hji : ∀ j e, Past i (d + 1) j e → j ≤ i := by
    intro j e hpe
    unfold Past at *
    omega
  refine ⟨by rw [List.length_set]; exact h.lenP, by rw [List.length_set]; exact h.lenD, fun k => ?_, fun k => ?_, fun j e a b => ?_, fun k hk0 hk j e a b => ?_, fun k hk => ?_, fun k hk => ?_, ?_⟩
  · rw [hP]
    have hk := h.bigP k
    have hc' := h.bigP c
    split <;> omega
  · rw [hD]
    have hk := h.bigD k
    have hi := h.bigD i
    split <;> omega
  · rcases past_one.1 a with a | ⟨rfl, rfl⟩
    · exact h.kid j e a b
    · rw [hc]
      omega
  · rw [hP] at hk
    split at hk
    · have := (h.bigP c).1
      omega
    · rename_i hck
      rcases past_one.1 a with a | ⟨rfl, rfl⟩
      · exact h.none k hk0 hk j e a b
      · rw [hc] at b
        exact hck (by omega)
  · rw [hP] at hk
    by_cases hck : c = k
    · subst hck
      rw [if_pos rfl] at hk
      have h0 : Pa.getD c 0 = 0 := by omega
      refine ⟨i, d, past_one.2 (.inr ⟨rfl, rfl⟩), hc, ?_, fun j' e' a' b' => ?_⟩
      · rw [hD, hD, if_pos rfl, if_neg (by omega)]
      · rcases past_one.1 a' with a' | a'
        · exact absurd b' (h.none c (by omega) h0 j' e' a')
        · exact a'
    · rw [if_neg hck] at hk
      obtain ⟨j, e, a, b, cc, f⟩ := h.one k hk
      refine ⟨j, e, past_one.2 (.inl a), b, ?_, fun j' e' a' b' => ?_⟩
      · have := hji j e (past_one.2 (.inl a))
        rw [hD, hD, if_neg hck, if_neg (by omega), cc]
      · rcases past_one.1 a' with a' | ⟨rfl, rfl⟩
        · exact f j' e' a' b'
        · rw [hc] at b'
          exact absurd (by omega) hck
  · rw [hP] at hk
    by_cases hck : c = k
    · subst hck
      rw [if_pos rfl] at hk
      rcases Classical.em (1 < Pa.getD c 0) with hb | hb
      · exact h.two c hb
      · have h1' : Pa.getD c 0 = 1 := by omega
        obtain ⟨j, e, a, b, _, _⟩ := h.one c h1'
        refine ⟨j, e, i, d, b, hc, ?_⟩
        rintro ⟨rfl, rfl⟩
        unfold Past at a
        omega
    · rw [if_neg hck] at hk
      exact h.two k hk
  · rw [hP, hD, if_neg (by omega), if_neg (by omega)]
    exact h.root

/-- Behind all nodes: what the last loop asks for is what makes the trie valid. -/
theorem VI.fin {T : Tr.Trie} {Pa De : List Int} (ht : ∀ x ∈ T, x.kids.length = 10) (hp : 0 < T.length) (hv : ∀ j, j < T.length → 0 ≤ Tr.val T j ∧ Tr.val T j ≤ 1099511627776) (h : VI T Pa De T.length 0) :
    Tr.Valid T ↔ ∀ k, 0 < k → k < T.length → Pa.getD k 0 = 1 ∧ De.getD k 0 ≤ 15 := by
  have hpast : ∀ j e, Tr.kid T j e ≠ 0 → Past T.length 0 j e := fun j e hk => .inl (Tr.kid_lt hk)
  constructor
  · intro hV k h0 hk
    have h1 : Pa.getD k 0 = 1 := by
      rcases Classical.em (Pa.getD k 0 = 0) with hz | hz
      · obtain ⟨j, e, hj⟩ := hV.par k h0 hk
        exact absurd hj (h.none k h0 hz j e (hpast j e (by rw [hj]; omega)))
      · have := (h.bigP k).1
        rcases Classical.em (1 < Pa.getD k 0) with hb | hb
        · obtain ⟨j, e, j', e', a, b, c⟩ := h.two k hb
          exact absurd (hV.uniq j e j' e' (by rw [a]; omega) (a.trans b.symm)) c
        · omega
    refine ⟨h1, ?_⟩
    obtain ⟨dep, d0, d1, d2⟩ := hV.deep
    have key : ∀ n j, j ≤ n → j < T.length → De.getD j 0 = (dep j : Int) := by
      intro n
      induction n with
      | zero =>
        intro j hj _
        obtain rfl : j = 0 := by omega
        rw [h.root.2, d0]; rfl
      | succ n ih =>
        intro j hj hjl
        rcases Nat.eq_zero_or_pos j with hz | hz
        · subst hz
          rw [h.root.2, d0]; rfl
        have hj1 : Pa.getD j 0 = 1 := by
          rcases Classical.em (Pa.getD j 0 = 0) with hz' | hz'
          · obtain ⟨p, e, hpe⟩ := hV.par j hz hjl
            exact absurd hpe (h.none j hz hz' p e (hpast p e (by rw [hpe]; omega)))
          · have := (h.bigP j).1
            rcases Classical.em (1 < Pa.getD j 0) with hb | hb
            · obtain ⟨p, e, p', e', a, b, c⟩ := h.two j hb
              exact absurd (hV.uniq p e p' e' (by rw [a]; omega) (a.trans b.symm)) c
            · omega
        obtain ⟨p, e, _, b, c, _⟩ := h.one j hj1
        have hne : Tr.kid T p e ≠ 0 := by rw [b]; omega
        have hlt := hV.kids p e hne
        have hd := d1 p e hne
        rw [b, Int.toNat_natCast] at hd
        rw [c, hd, ih p (by omega) (by omega)]
        omega
    rw [key k k (Nat.le_refl _) hk]
    have := d2 k hk
    omega
  · intro hall
    refine ⟨ht, hp, hv, fun i d hk => h.kid i d (hpast i d hk) hk, fun i d j e hk he => ?_, fun k h0 hk => ?_, ?_⟩
    · have hb := h.kid i d (hpast i d hk) hk
      obtain ⟨c, hc⟩ : ∃ c : Nat, Tr.kid T i d = (c : Int) := ⟨(Tr.kid T i d).toNat, by omega⟩
      obtain ⟨p, q, _, _, _, f⟩ := h.one c (hall c (by omega) (by omega)).1
      obtain ⟨a1, a2⟩ := f i d (hpast i d hk) hc
      obtain ⟨b1, b2⟩ := f j e (hpast j e (by rw [← he]; exact hk)) (he.symm.trans hc)
      exact ⟨a1.trans b1.symm, a2.trans b2.symm⟩
    · obtain ⟨p, q, _, b, _, _⟩ := h.one k (hall k h0 hk).1
      exact ⟨p, q, b⟩
    · refine ⟨fun j => (De.getD j 0).toNat, by show (De.getD 0 0).toNat = 0; rw [h.root.2]; rfl, fun i d hk => ?_, fun j hj => ?_⟩
      · have hb := h.kid i d (hpast i d hk) hk
        obtain ⟨c, hc⟩ : ∃ c : Nat, Tr.kid T i d = (c : Int) := ⟨(Tr.kid T i d).toNat, by omega⟩
        obtain ⟨p, q, _, _, cc, f⟩ := h.one c (hall c (by omega) (by omega)).1
        obtain ⟨rfl, rfl⟩ := f i d (hpast i d hk) hc
        show (De.getD (Tr.kid T i d).toNat 0).toNat = (De.getD i 0).toNat + 1
        rw [hc, Int.toNat_natCast, cc]
        have := (h.bigD i).1
        omega
      · show (De.getD j 0).toNat ≤ 15
        rcases Nat.eq_zero_or_pos j with hz | hz
        · subst hz
          rw [h.root.2]
          decide
        · have := (hall j hz hj).2
          omega

theorem rdI (D : List Int) (x : Nat) : rd D (x : Int) = D.getD x 0 := by unfold rd; rw [Int.toNat_natCast]

open Classical in
theorem val_l2 (l : Tl) (hn : l.length ≤ 4096) (Pa De : List Int) (hP : Pa.length = l.length) (hD : De.length = l.length) : ∀ (m i : Nat), l.length - i = m → 0 < i → i ≤ l.length → (∀ k, 0 < k → k < i → Pa.getD k 0 = 1 ∧ De.getD k 0 ≤ 15) →
    Ev (fun k => crossbarref07_valid.l2 k (l.length : Int) Pa De (i : Int)) (decide (∀ k, 0 < k → k < l.length → Pa.getD k 0 = 1 ∧ De.getD k 0 ≤ 15)) := by
  intro m
  induction m with
  | zero =>
    intro i hm h0 hi h
    obtain rfl : i = l.length := by omega
    rw [decide_eq_true h]
    refine Ev.step (fun k => crossbarref07_valid.l2.eq_2 _ _ _ _ k) ?_
    exact Ev.if_neg (by omega) (Ev.now _)
  | succ m ih =>
    intro i hm h0 hi h
    refine Ev.step (fun k => crossbarref07_valid.l2.eq_2 _ _ _ _ k) ?_
    refine Ev.if_pos (by omega) ?_
    refine Ev.if_pos (by omega) ?_
    refine Ev.if_pos (by omega) ?_
    rw [rdI, rdI]
    by_cases h1 : Pa.getD i 0 = 1
    · refine Ev.if_pos h1 ?_
      refine Ev.if_pos (by omega) ?_
      by_cases h2 : De.getD i 0 > 15
      · rw [decide_eq_false (fun hh => by have := (hh i h0 (by omega)).2; omega)]
        exact Ev.if_pos h2 (Ev.now _)
      · refine Ev.if_neg h2 ?_
        rw [w64s (by omega)]
        refine ih (i + 1) (by omega) (by omega) (by omega) fun k hk hki => ?_
        rcases Nat.lt_or_ge k i with hh | hh
        · exact h k hk hh
        · obtain rfl : k = i := by omega
          exact ⟨h1, by omega⟩
    · rw [decide_eq_false (fun hh => h1 (hh i h0 (by omega)).1)]
      exact Ev.if_neg h1 (Ev.now _)

open Classical in
noncomputable def vb (l : Tl) : Bool := decide (Tr.Valid (tt l))
open Classical in
theorem vb_bad {l : Tl} (h : ¬ Tr.Valid (tt l)) : vb l = false := decide_eq_false h

theorem val_l1 (l : Tl) (hn : l.length ≤ 4096) (i : Nat) (hi : i < l.length)
    (next : ∀ Pa De, VI (tt l) Pa De (i + 1) 0 → Ev (fun k => crossbarref07_valid.l0 k (l.length : Int) Pa De ((i + 1 : Nat) : Int) l) (vb l)) :
    ∀ (m d : Nat) (Pa De : List Int), 10 - d = m → d ≤ 10 → VI (tt l) Pa De i d → Ev (fun k => crossbarref07_valid.l1 k (l.length : Int) Pa De (i : Int) (d : Int) l) (vb l) := by
  have hT := tt_length l
  intro m
  induction m with
  | zero =>
    intro d Pa De hm hd h
    obtain rfl : d = 10 := by omega
    refine Ev.step (fun k => crossbarref07_valid.l1.eq_2 _ _ _ _ _ _ k) ?_
    refine Ev.if_neg (by omega) ?_
    rw [w64s (by omega)]
    exact next Pa De (h.next (tt_ten l))
  | succ m ih =>
    intro d Pa De hm hd h
    have hd' : d < 10 := by omega
    have hlP := h.lenP
    have hlD := h.lenD
    refine Ev.step (fun k => crossbarref07_valid.l1.eq_2 _ _ _ _ _ _ k) ?_
    refine Ev.if_pos (by omega) ?_
    refine Ev.if_pos (by omega) ?_
    refine Ev.if_pos (by omega) ?_
    refine Ev.if_pos (by omega) ?_
    rw [kid_eta l i d hd']
    by_cases h0 : Tr.kid (tt l) i d = 0
    · refine Ev.if_pos h0 ?_
      rw [w64s (by omega)]
      exact ih (d + 1) Pa De (by omega) (by omega) (h.skip h0)
    refine Ev.if_neg h0 ?_
    by_cases h1 : Tr.kid (tt l) i d ≤ (i : Int)
    · rw [vb_bad (fun hV => by have := (hV.kids i d h0).1; omega)]
      exact Ev.if_pos h1 (Ev.now _)
    refine Ev.if_neg h1 ?_
    by_cases h2 : Tr.kid (tt l) i d ≥ (l.length : Int)
    · rw [vb_bad (fun hV => by have := (hV.kids i d h0).2; omega)]
      exact Ev.if_pos h2 (Ev.now _)
    refine Ev.if_neg h2 ?_
    obtain ⟨c, hcc⟩ : ∃ c : Nat, Tr.kid (tt l) i d = (c : Int) := ⟨(Tr.kid (tt l) i d).toNat, by omega⟩
    rw [hcc] at h1 h2 ⊢
    refine Ev.if_pos (by omega) ?_
    refine Ev.if_pos (by omega) ?_
    refine Ev.if_pos (by omega) ?_
    refine Ev.if_pos (by omega) ?_
    have b1 := h.bigP c
    have b2 := h.bigD i
    rw [rdI, rdI, Int.toNat_natCast, w64s (by omega), w64 (x := Pa.getD c 0 + 1) (by omega) (by omega), w64 (x := De.getD i 0 + 1) (by omega) (by omega)]
    exact ih (d + 1) _ _ (by omega) (by omega) (h.put hcc (by omega) (by omega))

theorem val_l0 (l : Tl) (hp : 0 < l.length) (hn : l.length ≤ 4096) :
    ∀ (m i : Nat) (Pa De : List Int), l.length - i = m → i ≤ l.length → VI (tt l) Pa De i 0 → (∀ j, j < i → 0 ≤ Tr.val (tt l) j ∧ Tr.val (tt l) j ≤ 1099511627776) → Ev (fun k => crossbarref07_valid.l0 k (l.length : Int) Pa De (i : Int) l) (vb l) := by
  have hT := tt_length l
  intro m
  induction m with
  | zero =>
    intro i Pa De hm hi h hv
    obtain rfl : i = l.length := by omega
    refine Ev.step (fun k => crossbarref07_valid.l0.eq_2 _ _ _ _ _ k) ?_
    refine Ev.if_neg (by omega) ?_
    have e := VI.fin (tt_ten l) (by omega) (by rw [hT]; exact hv) (by rw [hT]; exact h)
    rw [hT] at e
    have h2 := val_l2 l hn Pa De (h.lenP.trans hT) (h.lenD.trans hT) (l.length - 1) 1 rfl (by omega) (by omega) (fun k a b => by omega)
    unfold vb
    rw [decide_eq_decide.2 e]
    exact h2
  | succ m ih =>
    intro i Pa De hm hi h hv
    have hva : (rd_T71 l (i : Int)).f1 = Tr.val (tt l) i := (val_at l i).symm
    refine Ev.step (fun k => crossbarref07_valid.l0.eq_2 _ _ _ _ _ k) ?_
    refine Ev.if_pos (by omega) ?_
    refine Ev.if_pos (by omega) ?_
    refine Ev.if_pos (by omega) ?_
    rw [hva]
    have bad : ¬ Tr.Valid (tt l) → Ev (fun k => crossbarref07_valid.j1 k (l.length : Int) Pa De (i : Int) true l) (vb l) := by
      intro hb
      rw [vb_bad hb]
      refine Ev.step (fun k => crossbarref07_valid.j1.eq_2 _ _ _ _ _ _ k) ?_
      exact Ev.if_pos rfl (Ev.now _)
    by_cases h1 : Tr.val (tt l) i < 0
    · exact Ev.if_pos h1 (bad fun hV => by have := (hV.vals i (by omega)).1; omega)
    refine Ev.if_neg h1 ?_
    by_cases h2 : Tr.val (tt l) i > 1099511627776
    · rw [decide_eq_true h2]
      exact bad fun hV => by have := (hV.vals i (by omega)).2; omega
    rw [decide_eq_false h2]
    refine Ev.step (fun k => crossbarref07_valid.j1.eq_2 _ _ _ _ _ _ k) ?_
    refine Ev.if_neg (by decide) ?_
    refine val_l1 l hn i (by omega) (fun Pa' De' h' => ih (i + 1) Pa' De' (by omega) (by omega) h' fun j hj => ?_) 10 0 Pa De rfl (by omega) h
    rcases Nat.lt_or_ge j i with hh | hh
    · exact hv j hh
    · obtain rfl : j = i := by omega
      omega

theorem valid_ev (l : Tl) (hn : l.length ≤ 4096) : Ev (fun k => crossbarref07_valid.f k l) (vb l) := by
  have hT := tt_length l
  unfold crossbarref07_valid.f
  by_cases h0 : (l.length : Int) < 1
  · rw [vb_bad (fun hV => by have := hV.pos; omega)]
    exact Ev.if_pos h0 (Ev.now _)
  refine Ev.if_neg h0 ?_
  refine Ev.if_pos (by omega) ?_
  refine Ev.if_pos (by omega) ?_
  rw [Int.toNat_natCast]
  have hD : ∀ j, (List.replicate l.length (0 : Int)).getD j 0 = 0 := fun j => by
    rw [List.getD_eq_getElem?_getD, List.getElem?_replicate]
    split <;> rfl
  exact val_l0 l (by omega) hn l.length 0 _ _ rfl (by omega)
    ⟨by simp [hT], by simp [hT], fun k => by rw [hD]; omega, fun k => by rw [hD]; omega, fun j e a => by unfold Past at a; omega, fun k _ _ j e a => by unfold Past at a; omega, fun k hk => absurd ((hD k).symm.trans hk) (by omega), fun k hk => absurd hk (by rw [hD]; omega), ⟨hD 0, hD 0⟩⟩ (fun j hj => by omega)
open Classical in
theorem Check_ref (l : Tl) : Ev (fun k => crossbarref07_Check.f k l) (ckv l) := by
  unfold crossbarref07_Check.f ckv
  by_cases h : l.length > 4096
  · rw [_root_.if_pos h]
    exact Ev.if_pos (by omega) (Ev.now _)
  · rw [_root_.if_neg h]
    refine Ev.if_neg (by omega) ?_
    refine Ev.bind (valid_ev l (by omega)) ?_
    by_cases hV : Tr.Valid (tt l)
    · rw [ckr_good hV]
      exact Ev.if_pos (decide_eq_true hV) (Ev.now _)
    · rw [ckr_bad hV, vb_bad hV]
      exact Ev.if_neg (by decide) (Ev.now _)

/-! ### node -/
theorem dgt_wrap (s : ByteArray) (i : Nat) (hi : i < s.size) (hd : Tr.IsDig s[i]) : wrap64 ((wrap64 (bt s (i : Int))) - 48) = ((Tr.dgt s[i] : Nat) : Int) := by
  unfold Tr.IsDig at hd
  rw [bt_at s i hi, w64 (x := ((s[i].toNat : Nat) : Int)) (by omega) (by omega), w64 (by omega) (by omega)]
  unfold Tr.dgt
  omega
def nodeV (T : Tr.Trie) (i : Nat) (s : Tr.Str) : Int := match Tr.go T i s with
  | none => -1
  | some j => (j : Int)
theorem node_loop (l : Tl) (ok : Ok l) (s : ByteArray) (hs : s.size < 9223372036854775807) (hd : Tr.Dig s.data.toList) : ∀ (m i at_ : Nat), s.size - i = m → i ≤ s.size → at_ < l.length →
    Ev (fun k => crossbarref07_node.l0 k s (at_ : Int) (i : Int) l) (nodeV (tt l) at_ (s.data.toList.drop i)) := by
  have hT := tt_length l
  intro m
  induction m with
  | zero =>
    intro i at_ hm hi ha
    obtain rfl : i = s.size := by omega
    rw [List.drop_eq_nil_of_le (by rw [size_len]; omega)]
    refine Ev.step (fun k => crossbarref07_node.l0.eq_2 _ _ _ _ k) ?_
    exact Ev.if_neg (by omega) (Ev.now _)
  | succ m ih =>
    intro i at_ hm hi ha
    have hil : i < s.size := by omega
    have hsd : Tr.IsDig s[i] := hd _ (by
      have := List.mem_of_mem_drop (i := i) (l := s.data.toList) (a := s[i]) (by rw [strByte s i hil]; exact List.mem_cons_self ..)
      exact this)
    have h10 : Tr.dgt s[i] < 10 := by unfold Tr.dgt; unfold Tr.IsDig at hsd; omega
    rw [strByte s i hil]
    refine Ev.step (fun k => crossbarref07_node.l0.eq_2 _ _ _ _ k) ?_
    rw [dgt_wrap s i hil hsd, kid_eta l at_ _ h10, w64s (by omega)]
    refine Ev.if_pos (by omega) ?_
    refine Ev.if_pos (by omega) ?_
    refine Ev.if_pos (by omega) ?_
    refine Ev.if_pos (by omega) ?_
    refine Ev.if_pos (by omega) ?_
    refine Ev.if_pos (by omega) ?_
    unfold nodeV
    rw [Tr.go]
    by_cases h0 : Tr.kid (tt l) at_ (Tr.dgt s[i]) = 0
    · rw [_root_.if_pos h0]
      exact Ev.if_pos h0 (Ev.now _)
    · rw [_root_.if_neg h0]
      refine Ev.if_neg h0 ?_
      have hb := ok.1.kids at_ _ h0
      obtain ⟨c, hc⟩ : ∃ c : Nat, Tr.kid (tt l) at_ (Tr.dgt s[i]) = (c : Int) := ⟨(Tr.kid (tt l) at_ (Tr.dgt s[i])).toNat, by omega⟩
      rw [hc] at hb ⊢
      rw [Int.toNat_natCast]
      exact ih (i + 1) c (by omega) (by omega) (by omega)
theorem node_ref (l : Tl) (ok : Ok l) (s : ByteArray) (hs : s.size < 9223372036854775807) (hd : Tr.Dig s.data.toList) : Ev (fun k => crossbarref07_node.f k l s) (nodeV (tt l) 0 s.data.toList) := by
  have := node_loop l ok s hs hd s.size 0 0 (by omega) (by omega) (by have := ok.1.pos; rw [tt_length] at this; exact this)
  exact this

end Go.Proofs.YtmendieiikmbhaaDoor.Fn
