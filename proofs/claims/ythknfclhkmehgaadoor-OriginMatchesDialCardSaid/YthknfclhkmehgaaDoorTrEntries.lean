/-
  PLAIN LAW (no program): digit tries as lists of nodes: what a digit string reaches, what is stored, growth, entries in order.
  PLAIN LAW (no program): a valid trie's entries, in order; two tries that store the same have the same entries; the longest stored prefix.
-/

namespace Go.Proofs.YthknfclhkmehgaaDoor.Tr
set_option linter.unusedVariables false
set_option linter.unusedSimpArgs false

structure TNode where
  kids : List Int
  val : Int

def nul : TNode := ⟨List.replicate 10 0, 0⟩
abbrev Trie := List TNode
abbrev Str := List UInt8

def kid (t : Trie) (i d : Nat) : Int := (t.getD i nul).kids.getD d 0
def val (t : Trie) (i : Nat) : Int := (t.getD i nul).val
def dgt (b : UInt8) : Nat := b.toNat - 48
def IsDig (b : UInt8) : Prop := 48 ≤ b.toNat ∧ b.toNat ≤ 57
def Dig (s : Str) : Prop := ∀ b ∈ s, IsDig b

/-- The node that is reached from node i by the digits of s. -/
def go (t : Trie) : Nat → Str → Option Nat
  | i, [] => some i
  | i, b :: s => if kid t i (dgt b) = 0 then none else go t (kid t i (dgt b)).toNat s

/-- The value stored at s, 0 if there is none. -/
def look (t : Trie) (s : Str) : Int := match go t 0 s with
  | none => 0
  | some i => val t i

structure Shape (t : Trie) : Prop where
  ten : ∀ x ∈ t, x.kids.length = 10

structure Valid (t : Trie) : Prop where
  ten : ∀ x ∈ t, x.kids.length = 10
  pos : 0 < t.length
  vals : ∀ i, i < t.length → 0 ≤ val t i ∧ val t i ≤ 1099511627776
  kids : ∀ i d, kid t i d ≠ 0 → (i : Int) < kid t i d ∧ kid t i d < (t.length : Int)
  uniq : ∀ i d j e, kid t i d ≠ 0 → kid t i d = kid t j e → i = j ∧ d = e
  par : ∀ k, 0 < k → k < t.length → ∃ i d, kid t i d = (k : Int)
  deep : ∃ dep : Nat → Nat, dep 0 = 0 ∧ (∀ i d, kid t i d ≠ 0 → dep (kid t i d).toNat = dep i + 1) ∧ ∀ i, i < t.length → dep i ≤ 15

theorem kid_nul (d : Nat) : nul.kids.getD d 0 = 0 := by
  unfold nul
  rw [List.getD_eq_getElem?_getD, List.getElem?_replicate]
  split <;> rfl

theorem kid_out {t : Trie} {i d : Nat} (h : t.length ≤ i) : kid t i d = 0 := by
  unfold kid
  simp only [List.getD_eq_getElem?_getD]
  rw [List.getElem?_eq_none h]
  rw [Option.getD_none, ← List.getD_eq_getElem?_getD]
  exact kid_nul d

theorem val_out {t : Trie} {i : Nat} (h : t.length ≤ i) : val t i = 0 := by
  unfold val nul
  rw [List.getD_eq_getElem?_getD, List.getElem?_eq_none h]
  rfl

theorem kid_lt {t : Trie} {i d : Nat} (h : kid t i d ≠ 0) : i < t.length := by
  rcases Nat.lt_or_ge i t.length with h1 | h1
  · exact h1
  · exact absurd (kid_out h1) h

theorem kid_ten {t : Trie} (ht : ∀ x ∈ t, x.kids.length = 10) {i d : Nat} (h : kid t i d ≠ 0) : d < 10 := by
  have hi := kid_lt h
  rcases Nat.lt_or_ge d 10 with h1 | h1
  · exact h1
  · refine absurd ?_ h
    unfold kid
    simp only [List.getD_eq_getElem?_getD]
    rw [List.getElem?_eq_getElem hi]
    have := ht t[i] (List.getElem_mem hi)
    rw [Option.getD_some, List.getElem?_eq_none (by omega)]
    rfl

theorem go_append (t : Trie) (s r : Str) : ∀ i, go t i (s ++ r) = (go t i s).bind fun j => go t j r := by
  induction s with
  | nil => intro i; rfl
  | cons b s ih =>
    intro i
    simp only [List.cons_append, go]
    split
    · rfl
    · exact ih _

theorem go_snoc (t : Trie) (s : Str) (b : UInt8) (i : Nat) : go t i (s ++ [b]) = (go t i s).bind fun j => if kid t j (dgt b) = 0 then none else some (kid t j (dgt b)).toNat := by
  rw [go_append]
  rfl

theorem go_lt {t : Trie} (hv : Valid t) {s : Str} : ∀ {i j}, i < t.length → go t i s = some j → j < t.length := by
  induction s with
  | nil =>
    intro i j hi h
    simp only [go, Option.some.injEq] at h
    omega
  | cons b s ih =>
    intro i j hi h
    simp only [go] at h
    split at h
    · cases h
    · rename_i hk
      have := hv.kids i _ hk
      exact ih (by omega) h

theorem go_depth {t : Trie} {dep : Nat → Nat} (hd : ∀ i d, kid t i d ≠ 0 → dep (kid t i d).toNat = dep i + 1) {s : Str} : ∀ {i j}, go t i s = some j → dep j = dep i + s.length := by
  induction s with
  | nil =>
    intro i j h
    simp only [go, Option.some.injEq] at h
    subst h
    rfl
  | cons b s ih =>
    intro i j h
    simp only [go] at h
    split at h
    · cases h
    · rename_i hk
      have h1 := hd i _ hk
      have h2 := ih h
      simp only [List.length_cons]
      omega

theorem go_len {t : Trie} (hv : Valid t) {s : Str} {j : Nat} (h : go t 0 s = some j) : s.length ≤ 15 := by
  obtain ⟨dep, h0, hd, hm⟩ := hv.deep
  have h1 := go_depth hd h
  have h2 := hm j (go_lt hv hv.pos h)
  omega

theorem dgt_inj {b c : UInt8} (hb : IsDig b) (hc : IsDig c) (h : dgt b = dgt c) : b = c := by
  unfold dgt at h
  unfold IsDig at hb hc
  exact UInt8.toNat_inj.1 (by omega)

theorem Dig.append {s r : Str} (h : Dig s) (k : Dig r) : Dig (s ++ r) := by
  intro b hb
  rcases List.mem_append.1 hb with hb | hb
  · exact h b hb
  · exact k b hb
theorem Dig.left {s r : Str} (h : Dig (s ++ r)) : Dig s := fun b hb => h b (List.mem_append_left _ hb)
theorem Dig.right {s r : Str} (h : Dig (s ++ r)) : Dig r := fun b hb => h b (List.mem_append_right _ hb)
theorem Dig.one {b : UInt8} (h : IsDig b) : Dig [b] := fun c hc => by rw [List.mem_singleton.1 hc]; exact h
theorem Dig.nil : Dig [] := fun b hb => by cases hb

theorem go_ge {t : Trie} (hv : Valid t) {s : Str} : ∀ {i j}, go t i s = some j → i ≤ j ∧ (s ≠ [] → i < j) := by
  induction s with
  | nil =>
    intro i j h
    simp only [go, Option.some.injEq] at h
    subst h
    exact ⟨Nat.le_refl _, fun h => absurd rfl h⟩
  | cons b s ih =>
    intro i j h
    simp only [go] at h
    split at h
    · cases h
    · rename_i hk
      have h1 := hv.kids i _ hk
      have h2 := (ih h).1
      exact ⟨by omega, fun _ => by omega⟩

/-- Two digit strings that reach one node are one. -/
theorem go_inj {t : Trie} (hv : Valid t) : ∀ (n : Nat) (s r : Str), s.length = n → Dig s → Dig r → ∀ {j}, go t 0 s = some j → go t 0 r = some j → s = r := by
  intro n
  induction n with
  | zero =>
    intro s r hl _ _ j hs hr
    have : s = [] := List.eq_nil_of_length_eq_zero hl
    subst this
    simp only [go, Option.some.injEq] at hs
    subst hs
    rcases List.eq_nil_or_concat r with h | ⟨r', b, rfl⟩
    · exact h.symm
    · have := (go_ge hv hr).2 (by simp)
      omega
  | succ n ih =>
    intro s r hl ds dr j hs hr
    rcases List.eq_nil_or_concat s with h | ⟨s', b, rfl⟩
    · subst h; cases hl
    rcases List.eq_nil_or_concat r with h | ⟨r', c, rfl⟩
    · subst h
      simp only [go, Option.some.injEq] at hr
      subst hr
      have := (go_ge hv hs).2 (by simp)
      omega
    simp only [List.concat_eq_append] at *
    rw [go_snoc] at hs hr
    cases h1 : go t 0 s' with
    | none => rw [h1] at hs; cases hs
    | some p =>
      cases h2 : go t 0 r' with
      | none => rw [h2] at hr; cases hr
      | some q =>
        rw [h1] at hs
        rw [h2] at hr
        simp only [Option.bind_some] at hs hr
        split at hs
        · cases hs
        split at hr
        · cases hr
        rename_i k1 k2
        simp only [Option.some.injEq] at hs hr
        have b1 := hv.kids _ _ k1
        have b2 := hv.kids _ _ k2
        obtain ⟨e1, e2⟩ := hv.uniq p (dgt b) q (dgt c) k1 (by omega)
        subst e1
        have := ih s' r' (by simp at hl; omega) ds.left dr.left h1 h2
        subst this
        rw [dgt_inj (ds.right b (by simp)) (dr.right c (by simp)) e2]

/-- Each node is reached. -/
theorem reached {t : Trie} (hv : Valid t) : ∀ (n k : Nat), k ≤ n → k < t.length → ∃ s, Dig s ∧ go t 0 s = some k := by
  intro n
  induction n with
  | zero =>
    intro k hk _
    obtain rfl : k = 0 := by omega
    exact ⟨[], Dig.nil, rfl⟩
  | succ n ih =>
    intro k hk hl
    rcases Nat.eq_zero_or_pos k with h | h
    · subst h; exact ⟨[], Dig.nil, rfl⟩
    obtain ⟨i, d, hi⟩ := hv.par k h hl
    have hne : kid t i d ≠ 0 := by rw [hi]; omega
    have hb := hv.kids i d hne
    have hd := kid_ten hv.ten hne
    obtain ⟨s, ds, hs⟩ := ih i (by omega) (by omega)
    refine ⟨s ++ [UInt8.ofNat (48 + d)], ds.append (Dig.one ?_), ?_⟩
    · unfold IsDig
      rw [UInt8.toNat_ofNat_of_lt' (by show _ < 256; omega)]
      omega
    · rw [go_snoc, hs]
      have hg : dgt (UInt8.ofNat (48 + d)) = d := by
        unfold dgt
        rw [UInt8.toNat_ofNat_of_lt' (by show _ < 256; omega)]
        omega
      simp only [Option.bind_some, hg]
      rw [if_neg hne, hi]
      rfl

/-! ### Setting a value -/
def setVal (t : Trie) (i : Nat) (v : Int) : Trie := t.set i ⟨(t.getD i nul).kids, v⟩

theorem getD_set (t : Trie) (i : Nat) (x : TNode) (j : Nat) : (t.set i x).getD j nul = if i = j ∧ i < t.length then x else t.getD j nul := by
  simp only [List.getD_eq_getElem?_getD]
  by_cases h : i = j
  · subst h
    rcases Nat.lt_or_ge i t.length with h1 | h1
    · rw [List.getElem?_set_self h1, if_pos ⟨rfl, h1⟩]; rfl
    · rw [if_neg (by omega), List.getElem?_eq_none (by simpa using h1), List.getElem?_eq_none h1]
  · rw [List.getElem?_set_ne h, if_neg (fun hh => h hh.1)]

theorem kid_setVal (t : Trie) (i : Nat) (v : Int) (j d : Nat) : kid (setVal t i v) j d = kid t j d := by
  unfold kid setVal
  rw [getD_set]
  split
  · rename_i h; rw [h.1]
  · rfl

theorem val_setVal {t : Trie} {i : Nat} (h : i < t.length) (v : Int) (j : Nat) : val (setVal t i v) j = if i = j then v else val t j := by
  unfold val setVal
  rw [getD_set]
  by_cases e : i = j
  · rw [if_pos ⟨e, h⟩, if_pos e]
  · rw [if_neg (fun hh => e hh.1), if_neg e]

theorem go_congr {t u : Trie} (h : ∀ j d, kid u j d = kid t j d) (s : Str) : ∀ i, go u i s = go t i s := by
  induction s with
  | nil => intro i; rfl
  | cons b s ih =>
    intro i
    simp only [go, h, ih]

theorem go_setVal (t : Trie) (i : Nat) (v : Int) (s : Str) (j : Nat) : go (setVal t i v) j s = go t j s := go_congr (kid_setVal t i v) s j

theorem length_setVal (t : Trie) (i : Nat) (v : Int) : (setVal t i v).length = t.length := by simp [setVal]

theorem mem_setVal {t : Trie} {i : Nat} {v : Int} (ht : ∀ x ∈ t, x.kids.length = 10) : ∀ x ∈ setVal t i v, x.kids.length = 10 := by
  intro x hx
  unfold setVal at hx
  rcases List.mem_or_eq_of_mem_set hx with h | h
  · exact ht x h
  · subst h
    simp only [List.getD_eq_getElem?_getD]
    rcases Nat.lt_or_ge i t.length with h1 | h1
    · rw [List.getElem?_eq_getElem h1]
      exact ht _ (List.getElem_mem h1)
    · rw [List.getElem?_eq_none h1]
      rfl

theorem valid_setVal {t : Trie} (hv : Valid t) {i : Nat} (hi : i < t.length) {v : Int} (h0 : 0 ≤ v) (h1 : v ≤ 1099511627776) : Valid (setVal t i v) where
  ten := mem_setVal hv.ten
  pos := by rw [length_setVal]; exact hv.pos
  vals := fun j hj => by
    rw [length_setVal] at hj
    rw [val_setVal hi]
    split
    · exact ⟨h0, h1⟩
    · exact hv.vals j hj
  kids := fun j d => by rw [kid_setVal, length_setVal]; exact hv.kids j d
  uniq := fun j d k e => by rw [kid_setVal, kid_setVal]; exact hv.uniq j d k e
  par := fun k hk hl => by
    rw [length_setVal] at hl
    obtain ⟨j, d, h⟩ := hv.par k hk hl
    exact ⟨j, d, by rw [kid_setVal]; exact h⟩
  deep := by
    obtain ⟨dep, a, b, c⟩ := hv.deep
    exact ⟨dep, a, fun j d h => by rw [kid_setVal] at h ⊢; exact b j d h, fun j hj => c j (by rwa [length_setVal] at hj)⟩

theorem look_setVal {t : Trie} (hv : Valid t) {p : Str} {i : Nat} (hp : go t 0 p = some i) (dp : Dig p) (v : Int) {s : Str} (ds : Dig s) : look (setVal t i v) s = if s = p then v else look t s := by
  unfold look
  rw [go_setVal]
  have hi := go_lt hv hv.pos hp
  cases h : go t 0 s with
  | none =>
    have : s ≠ p := fun e => by subst e; rw [h] at hp; cases hp
    rw [if_neg this]
  | some j =>
    simp only []
    rw [val_setVal hi]
    by_cases e : i = j
    · subst e
      rw [if_pos rfl, if_pos (go_inj hv _ s p rfl ds dp h hp)]
    · rw [if_neg e, if_neg]
      intro e2
      subst e2
      rw [h] at hp
      cases hp
      exact e rfl

/-! ### Growing -/
def setKid (t : Trie) (i d : Nat) (k : Int) : Trie := t.set i ⟨(t.getD i nul).kids.set d k, (t.getD i nul).val⟩

/-- Child d of node i is a new node then. -/
def sprout (t : Trie) (i d : Nat) : Trie := setKid t i d t.length ++ [nul]

theorem length_sprout (t : Trie) (i d : Nat) : (sprout t i d).length = t.length + 1 := by simp [sprout, setKid]

theorem getD_sprout {t : Trie} {i d : Nat} (j : Nat) : (sprout t i d).getD j nul = if i = j ∧ i < t.length then ⟨(t.getD i nul).kids.set d t.length, (t.getD i nul).val⟩ else t.getD j nul := by
  unfold sprout setKid
  rw [← getD_set]
  simp only [List.getD_eq_getElem?_getD]
  rcases Nat.lt_or_ge j t.length with h | h
  · rw [List.getElem?_append_left (by simpa using h)]
  · rw [List.getElem?_append_right (by simpa using h)]
    rw [List.getElem?_eq_none (l := t.set _ _) (by simpa using h)]
    simp only [List.length_set]
    rcases Nat.eq_or_lt_of_le h with h2 | h2
    · subst h2; simp
    · rw [List.getElem?_eq_none (by simp; omega)]

theorem val_sprout (t : Trie) (i d j : Nat) : val (sprout t i d) j = val t j := by
  unfold val
  rw [getD_sprout]
  split
  · rename_i h; rw [← h.1]
  · rfl

theorem kid_sprout {t : Trie} (ht : ∀ x ∈ t, x.kids.length = 10) {i d : Nat} (hi : i < t.length) (hd : d < 10) (j e : Nat) :
    kid (sprout t i d) j e = if j = i ∧ e = d then (t.length : Int) else kid t j e := by
  unfold kid
  rw [getD_sprout]
  by_cases h : j = i
  · subst h
    rw [if_pos ⟨rfl, hi⟩]
    have hl : ((t.getD j nul).kids).length = 10 := by
      rw [List.getD_eq_getElem?_getD, List.getElem?_eq_getElem hi]
      exact ht _ (List.getElem_mem hi)
    simp only [List.getD_eq_getElem?_getD] at hl ⊢
    by_cases h2 : e = d
    · subst h2
      rw [List.getElem?_set_self (by omega)]
      simp
    · rw [List.getElem?_set_ne (fun hh => h2 hh.symm), if_neg (fun hh => h2 hh.2)]
  · rw [if_neg (fun hh => h hh.1.symm), if_neg (fun hh => h hh.1)]

theorem ten_sprout {t : Trie} (ht : ∀ x ∈ t, x.kids.length = 10) (i d : Nat) : ∀ x ∈ sprout t i d, x.kids.length = 10 := by
  intro x hx
  unfold sprout at hx
  rcases List.mem_append.1 hx with hx | hx
  · unfold setKid at hx
    rcases List.mem_or_eq_of_mem_set hx with h | h
    · exact ht x h
    · subst h
      simp only [List.length_set, List.getD_eq_getElem?_getD]
      rcases Nat.lt_or_ge i t.length with h1 | h1
      · rw [List.getElem?_eq_getElem h1]
        exact ht _ (List.getElem_mem h1)
      · rw [List.getElem?_eq_none h1]
        rfl
  · rw [List.mem_singleton.1 hx]
    rfl

theorem valid_sprout {t : Trie} (hv : Valid t) {s : Str} {i d : Nat} (hs : go t 0 s = some i) (hl : s.length < 15) (hd : d < 10) (h0 : kid t i d = 0) : Valid (sprout t i d) := by
  have hi := go_lt hv hv.pos hs
  have kk := kid_sprout hv.ten hi hd
  refine ⟨ten_sprout hv.ten i d, by rw [length_sprout]; omega, ?_, ?_, ?_, ?_, ?_⟩
  · intro j hj
    rw [val_sprout]
    rw [length_sprout] at hj
    rcases Nat.lt_or_ge j t.length with h | h
    · exact hv.vals j h
    · rw [val_out h]; omega
  · intro j e h
    rw [kk] at h ⊢
    rw [length_sprout]
    split
    · rename_i hh; omega
    · rename_i hh
      rw [if_neg hh] at h
      have := hv.kids j e h
      omega
  · intro j e k f h1 h2
    rw [kk] at h1 h2
    rw [kk k f] at h2
    by_cases a : j = i ∧ e = d
    · by_cases b : k = i ∧ f = d
      · exact ⟨a.1.trans b.1.symm, a.2.trans b.2.symm⟩
      · rw [if_pos a, if_neg b] at h2
        have := hv.kids k f (by rw [← h2]; have := hv.pos; omega)
        omega
    · rw [if_neg a] at h1
      rw [if_neg a] at h2
      by_cases b : k = i ∧ f = d
      · rw [if_pos b] at h2
        have := hv.kids j e h1
        omega
      · rw [if_neg b] at h2
        exact hv.uniq j e k f h1 h2
  · intro k hk hl2
    rw [length_sprout] at hl2
    rcases Nat.lt_or_ge k t.length with h | h
    · obtain ⟨j, e, hj⟩ := hv.par k hk h
      refine ⟨j, e, ?_⟩
      rw [kk, if_neg, hj]
      rintro ⟨rfl, rfl⟩
      rw [h0] at hj
      omega
    · exact ⟨i, d, by rw [kk, if_pos ⟨rfl, rfl⟩]; omega⟩
  · obtain ⟨dep, a, b, c⟩ := hv.deep
    have hdi := go_depth b hs
    refine ⟨fun k => if k = t.length then dep i + 1 else dep k, ?_, ?_, ?_⟩
    · show (if 0 = t.length then dep i + 1 else dep 0) = 0
      rw [if_neg (by have := hv.pos; omega)]; exact a
    · intro j e h
      rw [kk] at h ⊢
      by_cases q : j = i ∧ e = d
      · rw [if_pos q]
        obtain ⟨rfl, rfl⟩ := q
        simp only [Int.toNat_natCast, if_true]
        rw [if_neg (by omega)]
      · rw [if_neg q] at h ⊢
        have h3 := hv.kids j e h
        simp only []
        rw [if_neg (by omega), if_neg (by omega)]
        exact b j e h
    · intro j hj
      rw [length_sprout] at hj
      simp only []
      split
      · omega
      · exact c j (by omega)

/-- What is reached behind a sprout: what was, and the new node. -/
theorem go_sprout {t : Trie} (hv : Valid t) {s : Str} {i : Nat} {b : UInt8} (hs : go t 0 s = some i) (ds : Dig s) (hb : IsDig b) (h0 : kid t i (dgt b) = 0) :
    ∀ (n : Nat) (r : Str), r.length = n → Dig r → go (sprout t i (dgt b)) 0 r = if r = s ++ [b] then some t.length else go t 0 r := by
  have hi := go_lt hv hv.pos hs
  have hd : dgt b < 10 := by unfold dgt; unfold IsDig at hb; omega
  have kk := kid_sprout hv.ten hi hd
  intro n
  induction n with
  | zero =>
    intro r hl _
    have : r = [] := List.eq_nil_of_length_eq_zero hl
    subst this
    rw [if_neg (by simp)]
    rfl
  | succ n ih =>
    intro r hl dr
    rcases List.eq_nil_or_concat r with h | ⟨q, c, rfl⟩
    · subst h; cases hl
    simp only [List.concat_eq_append] at *
    rw [go_snoc, go_snoc, ih q (by simp at hl; omega) dr.left]
    by_cases e : q = s ++ [b]
    · subst e
      rw [if_pos rfl]
      have hk : kid (sprout t i (dgt b)) t.length (dgt c) = 0 := by rw [kk, if_neg (by omega), kid_out (Nat.le_refl _)]
      simp only [Option.bind_some]
      rw [hk, if_pos rfl, if_neg (by simp), go_snoc, hs]
      simp [h0]
    · rw [if_neg e]
      cases h : go t 0 q with
      | none =>
        rw [if_neg]
        · rfl
        · intro e2
          have := List.append_inj_left' e2 rfl
          subst this
          rw [h] at hs
          cases hs
      | some j =>
        simp only [Option.bind_some, kk]
        by_cases f : j = i ∧ dgt c = dgt b
        · have f' := f
          obtain ⟨rfl, f2⟩ := f
          have e3 : q = s := go_inj hv _ q s rfl dr.left ds h hs
          have e4 := dgt_inj (dr.right c (by simp)) hb f2
          subst e3 e4
          rw [if_pos f', if_pos rfl, if_neg (by have := hv.pos; omega)]
          simp
        · rw [if_neg f]
          have hne : ¬ (q ++ [c] = s ++ [b] ∧ True) → (if q ++ [c] = s ++ [b] then some t.length else if kid t j (dgt c) = 0 then none else some (kid t j (dgt c)).toNat) = if kid t j (dgt c) = 0 then none else some (kid t j (dgt c)).toNat := fun hh => if_neg (fun e => hh ⟨e, trivial⟩)
          refine (hne ?_).symm
          rintro ⟨e2, _⟩
          obtain ⟨e3, e4⟩ := List.append_inj' e2 rfl
          subst e3
          simp only [List.cons.injEq, and_true] at e4
          subst e4
          rw [h] at hs
          cases hs
          exact f ⟨rfl, rfl⟩

theorem look_sprout {t : Trie} (hv : Valid t) {s : Str} {i : Nat} {b : UInt8} (hs : go t 0 s = some i) (ds : Dig s) (hb : IsDig b) (h0 : kid t i (dgt b) = 0) {r : Str} (dr : Dig r) : look (sprout t i (dgt b)) r = look t r := by
  unfold look
  rw [go_sprout hv hs ds hb h0 _ r rfl dr]
  by_cases e : r = s ++ [b]
  · subst e
    rw [if_pos rfl, go_snoc, hs]
    simp only [Option.bind_some, h0, if_true, val_sprout]
    exact val_out (Nat.le_refl _)
  · rw [if_neg e]
    cases go t 0 r with
    | none => rfl
    | some j => exact val_sprout ..

/-- The trie and the node behind the digits of s, from node i on; what is missing is laid. -/
def grow : Trie → Nat → Str → Trie × Nat
  | t, i, [] => (t, i)
  | t, i, b :: s => if kid t i (dgt b) = 0 then grow (sprout t i (dgt b)) t.length s else grow t (kid t i (dgt b)).toNat s

structure Grown (t u : Trie) (p : Str) (i : Nat) : Prop where
  valid : Valid u
  here : go u 0 p = some i
  keep : ∀ r, Dig r → look u r = look t r
  lo : t.length ≤ u.length
  hi : u.length ≤ t.length + p.length
  old : ∀ r j, Dig r → go t 0 r = some j → go u 0 r = some j
  new : ∀ r, Dig r → go u 0 r ≠ none → go t 0 r ≠ none ∨ ∃ q, p = r ++ q

theorem grow_spec (s : Str) : ∀ {t : Trie} {pre : Str} {i : Nat}, Valid t → go t 0 pre = some i → Dig pre → Dig s → pre.length + s.length ≤ 15 →
    Valid (grow t i s).1 ∧ go (grow t i s).1 0 (pre ++ s) = some (grow t i s).2 ∧ (∀ r, Dig r → look (grow t i s).1 r = look t r) ∧ t.length ≤ (grow t i s).1.length ∧ (grow t i s).1.length ≤ t.length + s.length ∧
    (∀ r j, Dig r → go t 0 r = some j → go (grow t i s).1 0 r = some j) ∧ (∀ r, Dig r → go (grow t i s).1 0 r ≠ none → go t 0 r ≠ none ∨ ∃ q, pre ++ s = r ++ q) := by
  induction s with
  | nil =>
    intro t pre i hv hp _ _ _
    simp only [grow, List.append_nil]
    exact ⟨hv, hp, fun _ _ => trivial, Nat.le_refl _, Nat.le_refl _, fun _ _ _ h => h, fun _ _ h => .inl h⟩
  | cons b s ih =>
    intro t pre i hv hp dp ds hl
    have hb : IsDig b := ds b (List.mem_cons_self ..)
    have ds' : Dig s := fun c hc => ds c (List.mem_cons_of_mem _ hc)
    have hd : dgt b < 10 := by unfold dgt; unfold IsDig at hb; omega
    simp only [List.length_cons] at hl
    have ea : pre ++ b :: s = (pre ++ [b]) ++ s := by simp
    simp only [grow]
    split
    · rename_i h0
      have hv' := valid_sprout hv hp (by omega) hd h0
      have hg := go_sprout hv hp dp hb h0
      have hp' : go (sprout t i (dgt b)) 0 (pre ++ [b]) = some t.length := by rw [hg _ _ rfl (dp.append (Dig.one hb)), if_pos rfl]
      obtain ⟨a1, a2, a3, a4, a5, a6, a7⟩ := ih hv' hp' (dp.append (Dig.one hb)) ds' (by simp; omega)
      rw [length_sprout] at a4 a5
      refine ⟨a1, by rw [ea]; exact a2, fun r dr => (a3 r dr).trans (look_sprout hv hp dp hb h0 dr), by omega, by simp only [List.length_cons]; omega, ?_, ?_⟩
      · intro r j dr hr
        refine a6 r j dr ?_
        rw [hg _ r rfl dr, if_neg, hr]
        intro e
        subst e
        rw [go_snoc, hp] at hr
        simp [h0] at hr
      · intro r dr hr
        rcases a7 r dr hr with h | ⟨q, h⟩
        · rw [hg _ r rfl dr] at h
          by_cases e : r = pre ++ [b]
          · exact .inr ⟨s, by rw [e, ea]⟩
          · rw [if_neg e] at h; exact .inl h
        · exact .inr ⟨q, by rw [ea, h]⟩
    · rename_i h0
      have hp' : go t 0 (pre ++ [b]) = some (kid t i (dgt b)).toNat := by
        rw [go_snoc, hp]
        simp [h0]
      obtain ⟨a1, a2, a3, a4, a5, a6, a7⟩ := ih hv hp' (dp.append (Dig.one hb)) ds' (by simp; omega)
      refine ⟨a1, by rw [ea]; exact a2, a3, a4, by simp only [List.length_cons]; omega, a6, ?_⟩
      intro r dr hr
      rcases a7 r dr hr with h | ⟨q, h⟩
      · exact .inl h
      · exact .inr ⟨q, by rw [ea, h]⟩

theorem grown {t : Trie} (hv : Valid t) {p : Str} (dp : Dig p) (hl : p.length ≤ 15) : Grown t (grow t 0 p).1 p (grow t 0 p).2 := by
  obtain ⟨a1, a2, a3, a4, a5, a6, a7⟩ := grow_spec p hv (pre := []) rfl Dig.nil dp (by simpa using hl)
  exact ⟨a1, by simpa using a2, a3, a4, a5, a6, fun r dr h => by simpa using a7 r dr h⟩

/-- If all is there, nothing grows. -/
theorem grow_there (s : Str) : ∀ {t : Trie} {i j : Nat}, go t i s = some j → grow t i s = (t, j) := by
  induction s with
  | nil =>
    intro t i j h
    simp only [go, Option.some.injEq] at h
    subst h
    rfl
  | cons b s ih =>
    intro t i j h
    simp only [go] at h
    simp only [grow]
    split at h
    · cases h
    · rename_i hk
      rw [if_neg hk]
      exact ih h

/-! ### Put and Drop -/
def put (t : Trie) (p : Str) (v : Int) : Trie := setVal (grow t 0 p).1 (grow t 0 p).2 v
def drop (t : Trie) (p : Str) : Trie := match go t 0 p with
  | none => t
  | some i => setVal t i 0

theorem put_valid {t : Trie} (hv : Valid t) {p : Str} (dp : Dig p) (hl : p.length ≤ 15) {v : Int} (h0 : 0 ≤ v) (h1 : v ≤ 1099511627776) : Valid (put t p v) :=
  have g := grown hv dp hl
  valid_setVal g.valid (go_lt g.valid g.valid.pos g.here) h0 h1

theorem put_look {t : Trie} (hv : Valid t) {p : Str} (dp : Dig p) (hl : p.length ≤ 15) (v : Int) {s : Str} (ds : Dig s) : look (put t p v) s = if s = p then v else look t s := by
  have g := grown hv dp hl
  unfold put
  rw [look_setVal g.valid g.here dp v ds, g.keep s ds]

theorem put_size {t : Trie} (hv : Valid t) {p : Str} (dp : Dig p) (hl : p.length ≤ 15) (v : Int) : t.length ≤ (put t p v).length ∧ (put t p v).length ≤ t.length + p.length := by
  have g := grown hv dp hl
  unfold put
  rw [length_setVal]
  exact ⟨g.lo, g.hi⟩

theorem put_nodes {t : Trie} (hv : Valid t) {p : Str} (dp : Dig p) (hl : p.length ≤ 15) (v : Int) {r : Str} (dr : Dig r) (h : go (put t p v) 0 r ≠ none) : go t 0 r ≠ none ∨ ∃ q, p = r ++ q := by
  have g := grown hv dp hl
  unfold put at h
  rw [go_setVal] at h
  exact g.new r dr h

theorem put_here {t : Trie} (hv : Valid t) {p : Str} (dp : Dig p) (hl : p.length ≤ 15) (v : Int) : go (put t p v) 0 p = some (grow t 0 p).2 := by
  have g := grown hv dp hl
  unfold put
  rw [go_setVal]
  exact g.here

theorem set_set_self (t : Trie) (i : Nat) (v : Int) : setVal (setVal t i v) i v = setVal t i v := by
  unfold setVal
  rcases Nat.lt_or_ge i t.length with h | h
  · rw [List.set_set]
    congr 2
    rw [getD_set, if_pos ⟨rfl, h⟩]
  · rw [List.set_eq_of_length_le (l := t) h, List.set_eq_of_length_le h]

theorem put_put {t : Trie} (hv : Valid t) {p : Str} (dp : Dig p) (hl : p.length ≤ 15) (v : Int) : put (put t p v) p v = put t p v := by
  have h := put_here hv dp hl v
  rw [put, grow_there p h]
  show setVal (setVal _ _ v) _ v = setVal _ _ v
  exact set_set_self _ _ _

theorem drop_valid {t : Trie} (hv : Valid t) (p : Str) : Valid (drop t p) := by
  unfold drop
  cases h : go t 0 p with
  | none => exact hv
  | some i => exact valid_setVal hv (go_lt hv hv.pos h) (by omega) (by omega)

theorem drop_look {t : Trie} (hv : Valid t) {p : Str} (dp : Dig p) {s : Str} (ds : Dig s) : look (drop t p) s = if s = p then 0 else look t s := by
  unfold drop
  cases h : go t 0 p with
  | none =>
    by_cases e : s = p
    · subst e
      simp [look, h]
    · rw [if_neg e]
  | some i => exact look_setVal hv h dp 0 ds

theorem drop_size (t : Trie) (p : Str) : (drop t p).length = t.length := by
  unfold drop
  cases go t 0 p with
  | none => rfl
  | some i => exact length_setVal ..

end Go.Proofs.YthknfclhkmehgaaDoor.Tr
namespace Go.Proofs.YthknfclhkmehgaaDoor.Tr
set_option linter.unusedVariables false
set_option linter.unusedSimpArgs false

/-! ### The order of byte strings -/
def lt : Str → Str → Bool
  | _, [] => false
  | [], _ :: _ => true
  | a :: x, b :: y => a < b || (a == b && lt x y)

theorem lt_irrefl (s : Str) : lt s s = false := by
  induction s with
  | nil => rfl
  | cons a s ih => simp [lt, ih]

theorem lt_asymm : ∀ (s r : Str), lt s r = true → lt r s = false
  | [], [], _ => rfl
  | [], _ :: _, _ => rfl
  | _ :: _, [], h => by simp [lt] at h
  | a :: s, b :: r, h => by
    have ih := lt_asymm s r
    simp only [lt, Bool.or_eq_true, decide_eq_true_eq, Bool.and_eq_true, beq_iff_eq] at h
    simp only [lt, Bool.or_eq_false_iff, decide_eq_false_iff_not, Bool.and_eq_false_iff, beq_eq_false_iff_ne]
    rcases h with h | ⟨rfl, h⟩
    · have h' : a.toNat < b.toNat := UInt8.lt_iff_toNat_lt.1 h
      refine ⟨fun hh => ?_, .inl fun e => ?_⟩
      · have := UInt8.lt_iff_toNat_lt.1 hh
        omega
      · subst e; omega
    · exact ⟨fun hh => by have := UInt8.lt_iff_toNat_lt.1 hh; omega, .inr (ih h)⟩

theorem lt_append (s : Str) (b : UInt8) (r : Str) : lt s (s ++ b :: r) = true := by
  induction s with
  | nil => rfl
  | cons a s ih => simp [lt, ih]

theorem lt_branch (s : Str) {b c : UInt8} (h : b.toNat < c.toNat) (x y : Str) : lt (s ++ b :: x) (s ++ c :: y) = true := by
  induction s with
  | nil =>
    simp only [List.nil_append, lt, Bool.or_eq_true, decide_eq_true_eq]
    exact .inl (UInt8.lt_iff_toNat_lt.2 h)
  | cons a s ih => simp [lt, ih]

/-! ### Sorted lists of entries -/
abbrev Ents := List (Str × Int)
def Sorted (l : Ents) : Prop := l.Pairwise fun a b => lt a.1 b.1 = true

theorem sorted_ext : ∀ (l m : Ents), Sorted l → Sorted m → (∀ e, e ∈ l ↔ e ∈ m) → l = m
  | [], [], _, _, _ => rfl
  | [], b :: m, _, _, h => by have := (h b).2 (List.mem_cons_self ..); cases this
  | a :: l, [], _, _, h => by have := (h a).1 (List.mem_cons_self ..); cases this
  | a :: l, b :: m, hl, hm, h => by
    have hl' := List.pairwise_cons.1 hl
    have hm' := List.pairwise_cons.1 hm
    have hab : a = b := by
      rcases List.mem_cons.1 ((h a).1 (List.mem_cons_self ..)) with e | h1
      · exact e
      rcases List.mem_cons.1 ((h b).2 (List.mem_cons_self ..)) with e | h2
      · exact e.symm
      have k1 := hm'.1 a h1
      have k2 := hl'.1 b h2
      rw [lt_asymm _ _ k1] at k2
      cases k2
    subst hab
    congr 1
    refine sorted_ext l m hl'.2 hm'.2 fun e => ⟨fun he => ?_, fun he => ?_⟩
    · rcases List.mem_cons.1 ((h e).1 (List.mem_cons_of_mem _ he)) with rfl | h1
      · have := hl'.1 e he
        rw [lt_irrefl] at this
        cases this
      · exact h1
    · rcases List.mem_cons.1 ((h e).2 (List.mem_cons_of_mem _ he)) with rfl | h1
      · have := hm'.1 e he
        rw [lt_irrefl] at this
        cases this
      · exact h1

/-! ### The entries at a node and below -/
def dig (d : Nat) : UInt8 := UInt8.ofNat (48 + d)
theorem dig_toNat {d : Nat} (h : d < 10) : (dig d).toNat = 48 + d := by
  unfold dig
  rw [UInt8.toNat_ofNat_of_lt' (by show _ < 256; omega)]
theorem dgt_dig {d : Nat} (h : d < 10) : dgt (dig d) = d := by
  unfold dgt
  rw [dig_toNat h]
  omega
theorem isDig_dig {d : Nat} (h : d < 10) : IsDig (dig d) := by
  unfold IsDig
  rw [dig_toNat h]
  omega
theorem dig_dgt {b : UInt8} (h : IsDig b) : dig (dgt b) = b := by
  have hb : dgt b < 10 := by unfold dgt; unfold IsDig at h; omega
  refine dgt_inj (isDig_dig hb) h (dgt_dig hb)

def ents (t : Trie) : Nat → Nat → Str → Ents
  | 0, _, _ => []
  | f + 1, i, pre => (if val t i = 0 then [] else [(pre, val t i)]) ++ (List.range 10).flatMap fun d => if kid t i d = 0 then [] else ents t f (kid t i d).toNat (pre ++ [dig d])

theorem mem_ents {t : Trie} : ∀ (f i : Nat) (pre : Str) (e : Str × Int), e ∈ ents t f i pre ↔ ∃ s j, Dig s ∧ e.1 = pre ++ s ∧ go t i s = some j ∧ val t j = e.2 ∧ e.2 ≠ 0 ∧ s.length < f := by
  intro f
  induction f with
  | zero =>
    intro i pre e
    simp only [ents, List.not_mem_nil, Nat.not_lt_zero, and_false, exists_false]
  | succ f ih =>
    intro i pre e
    simp only [ents, List.mem_append, List.mem_flatMap, List.mem_range]
    constructor
    · rintro (h | ⟨d, hd, h⟩)
      · split at h
        · cases h
        · rename_i hv
          rw [List.mem_singleton] at h
          subst h
          exact ⟨[], i, Dig.nil, by simp, rfl, rfl, hv, by simp⟩
      · split at h
        · cases h
        · rename_i hk
          obtain ⟨s, j, ds, h1, h2, h3, h4, h5⟩ := (ih _ _ _).1 h
          refine ⟨dig d :: s, j, ?_, by rw [h1]; simp, ?_, h3, h4, by simp; omega⟩
          · intro b hb
            rcases List.mem_cons.1 hb with rfl | hb
            · exact isDig_dig hd
            · exact ds b hb
          · simp only [go, dgt_dig hd]
            rw [if_neg hk]
            exact h2
    · rintro ⟨s, j, ds, h1, h2, h3, h4, h5⟩
      cases s with
      | nil =>
        left
        simp only [go, Option.some.injEq] at h2
        subst h2
        rw [if_neg (by rw [h3]; exact h4), List.mem_singleton]
        rw [List.append_nil] at h1
        exact Prod.ext h1 h3.symm
      | cons b s =>
        right
        have hb : IsDig b := ds b (List.mem_cons_self ..)
        have hb10 : dgt b < 10 := by unfold dgt; unfold IsDig at hb; omega
        simp only [go] at h2
        split at h2
        · cases h2
        rename_i hk
        refine ⟨dgt b, hb10, ?_⟩
        rw [if_neg hk]
        refine (ih _ _ _).2 ⟨s, j, fun c hc => ds c (List.mem_cons_of_mem _ hc), ?_, h2, h3, h4, by simp at h5; omega⟩
        rw [h1, dig_dgt hb]
        simp

theorem pairwise_flatMap {α β : Type} (R : β → β → Prop) (f : α → List β) : ∀ (l : List α), (∀ a ∈ l, (f a).Pairwise R) → l.Pairwise (fun a b => ∀ x ∈ f a, ∀ y ∈ f b, R x y) → (l.flatMap f).Pairwise R
  | [], _, _ => List.Pairwise.nil
  | a :: l, h1, h2 => by
    have h2' := List.pairwise_cons.1 h2
    rw [List.flatMap_cons, List.pairwise_append]
    refine ⟨h1 a (List.mem_cons_self ..), pairwise_flatMap R f l (fun b hb => h1 b (List.mem_cons_of_mem _ hb)) h2'.2, ?_⟩
    intro x hx y hy
    obtain ⟨b, hb, hy'⟩ := List.mem_flatMap.1 hy
    exact h2'.1 b hb x hx y hy'

theorem sorted_ents {t : Trie} : ∀ (f i : Nat) (pre : Str), Sorted (ents t f i pre) := by
  intro f
  induction f with
  | zero => intro i pre; exact List.Pairwise.nil
  | succ f ih =>
    intro i pre
    unfold Sorted
    simp only [ents]
    rw [List.pairwise_append]
    refine ⟨?_, ?_, ?_⟩
    · split
      · exact List.Pairwise.nil
      · exact List.pairwise_singleton ..
    · refine pairwise_flatMap _ _ _ (fun d _ => ?_) ?_
      · split
        · exact List.Pairwise.nil
        · exact ih _ _
      · refine (List.pairwise_lt_range (n := 10)).imp_of_mem ?_
        intro c d hc hd hcd x hx y hy
        rw [List.mem_range] at hc hd
        split at hx
        · cases hx
        split at hy
        · cases hy
        obtain ⟨s, _, _, e1, _⟩ := (mem_ents _ _ _ _).1 hx
        obtain ⟨r, _, _, e2, _⟩ := (mem_ents _ _ _ _).1 hy
        rw [e1, e2, List.append_assoc, List.append_assoc]
        exact lt_branch pre (by rw [dig_toNat hc, dig_toNat hd]; omega) s r
    · intro x hx y hy
      split at hx
      · cases hx
      rw [List.mem_singleton] at hx
      subst hx
      obtain ⟨d, hd, hy⟩ := List.mem_flatMap.1 hy
      split at hy
      · cases hy
      obtain ⟨s, _, _, e, _⟩ := (mem_ents _ _ _ _).1 hy
      rw [e, List.append_assoc]
      exact lt_append pre _ s

def entries (t : Trie) : Ents := ents t 16 0 []

theorem mem_entries {t : Trie} (hv : Valid t) (e : Str × Int) : e ∈ entries t ↔ Dig e.1 ∧ look t e.1 = e.2 ∧ e.2 ≠ 0 := by
  unfold entries
  rw [mem_ents]
  constructor
  · rintro ⟨s, j, ds, h1, h2, h3, h4, h5⟩
    rw [List.nil_append] at h1
    rw [h1]
    exact ⟨ds, by simp [look, h2, h3], h4⟩
  · rintro ⟨ds, h1, h2⟩
    unfold look at h1
    cases h : go t 0 e.1 with
    | none => rw [h] at h1; exact absurd h1.symm h2
    | some j =>
      rw [h] at h1
      exact ⟨e.1, j, ds, rfl, h, h1, h2, by have := go_len hv h; omega⟩

theorem sorted_entries (t : Trie) : Sorted (entries t) := sorted_ents ..

/-- Two tries that store the same have the same entries. -/
theorem entries_congr {t u : Trie} (ht : Valid t) (hu : Valid u) (h : ∀ s, Dig s → look t s = look u s) : entries t = entries u := by
  refine sorted_ext _ _ (sorted_entries t) (sorted_entries u) fun e => ?_
  rw [mem_entries ht, mem_entries hu]
  constructor
  · rintro ⟨a, b, c⟩; exact ⟨a, by rw [← h _ a]; exact b, c⟩
  · rintro ⟨a, b, c⟩; exact ⟨a, by rw [h _ a]; exact b, c⟩

/-- The entries but for those of a string. -/
def without (l : Ents) (p : Str) : Ents := l.filter fun e => !(e.1 == p)

theorem entries_without {t u : Trie} (ht : Valid t) (hu : Valid u) {p : Str} (h : ∀ s, Dig s → look u s = if s = p then 0 else look t s) : entries u = without (entries t) p := by
  refine sorted_ext _ _ (sorted_entries u) (List.Pairwise.filter _ (sorted_entries t)) fun e => ?_
  rw [mem_entries hu, without, List.mem_filter, mem_entries ht]
  simp only [Bool.not_eq_true', beq_eq_false_iff_ne]
  constructor
  · rintro ⟨a, b, c⟩
    rw [h _ a] at b
    split at b
    · exact absurd b.symm c
    · rename_i hne
      exact ⟨⟨a, b, c⟩, hne⟩
  · rintro ⟨⟨a, b, c⟩, d⟩
    exact ⟨a, by rw [h _ a, if_neg d]; exact b, c⟩

theorem without_congr {t u : Trie} (ht : Valid t) (hu : Valid u) {p : Str} (h : ∀ s, Dig s → s ≠ p → look u s = look t s) : without (entries u) p = without (entries t) p := by
  refine sorted_ext _ _ (List.Pairwise.filter _ (sorted_entries u)) (List.Pairwise.filter _ (sorted_entries t)) fun e => ?_
  simp only [without, List.mem_filter, mem_entries ht, mem_entries hu, Bool.not_eq_true', beq_eq_false_iff_ne]
  constructor
  · rintro ⟨⟨a, b, c⟩, d⟩
    exact ⟨⟨a, by rw [← h _ a d]; exact b, c⟩, d⟩
  · rintro ⟨⟨a, b, c⟩, d⟩
    exact ⟨⟨a, by rw [h _ a d]; exact b, c⟩, d⟩

/-! ### The longest stored prefix -/
/-- The pairs (digits used, node) on the way of s. -/
def way (t : Trie) : Nat → Nat → Str → List (Nat × Nat)
  | i, n, [] => [(n, i)]
  | i, n, b :: s => (n, i) :: if kid t i (dgt b) = 0 then [] else way t (kid t i (dgt b)).toNat (n + 1) s

/-- The last of them with a value. -/
def last (t : Trie) (l : List (Nat × Nat)) : Option (Nat × Nat) := l.foldl (fun a x => if val t x.2 = 0 then a else some x) none

theorem way_mem {t : Trie} (s : Str) : ∀ (i n : Nat) (x : Nat × Nat), x ∈ way t i n s ↔ ∃ k, k ≤ s.length ∧ x.1 = n + k ∧ go t i (s.take k) = some x.2 := by
  induction s with
  | nil =>
    intro i n x
    simp only [way, List.mem_singleton, List.length_nil, Nat.le_zero_eq, List.take_nil, go, Option.some.injEq]
    constructor
    · rintro rfl; exact ⟨0, rfl, rfl, rfl⟩
    · rintro ⟨k, rfl, h1, h2⟩; exact Prod.ext h1 h2.symm
  | cons b s ih =>
    intro i n x
    simp only [way, List.mem_cons]
    constructor
    · rintro (rfl | h)
      · exact ⟨0, Nat.zero_le _, rfl, rfl⟩
      · split at h
        · cases h
        · rename_i hk
          obtain ⟨k, h1, h2, h3⟩ := (ih _ _ _).1 h
          exact ⟨k + 1, by simp; omega, by omega, by rw [List.take_succ_cons]; simp only [go]; rw [if_neg hk]; exact h3⟩
    · rintro ⟨k, h1, h2, h3⟩
      cases k with
      | zero =>
        simp only [List.take_zero, go, Option.some.injEq] at h3
        exact .inl (Prod.ext h2 h3.symm)
      | succ k =>
        rw [List.take_succ_cons] at h3
        simp only [go] at h3
        split at h3
        · cases h3
        · rename_i hk
          right
          rw [if_neg hk]
          exact (ih _ _ _).2 ⟨k, by simp at h1; omega, by omega, h3⟩

theorem way_sorted {t : Trie} (s : Str) : ∀ (i n : Nat), (way t i n s).Pairwise fun a b => a.1 < b.1 := by
  induction s with
  | nil => intro i n; exact List.pairwise_singleton ..
  | cons b s ih =>
    intro i n
    simp only [way, List.pairwise_cons]
    split
    · exact ⟨fun x hx => (List.not_mem_nil hx).elim, List.Pairwise.nil⟩
    · refine ⟨fun x hx => ?_, ih _ _⟩
      obtain ⟨k, _, h2, _⟩ := (way_mem _ _ _ _).1 hx
      show n < x.1
      omega

theorem foldl_last (t : Trie) : ∀ (l : List (Nat × Nat)) (a : Option (Nat × Nat)), l.Pairwise (fun x y => x.1 < y.1) →
    (∀ x, l.foldl (fun a x => if val t x.2 = 0 then a else some x) a = some x → (x ∈ l ∧ val t x.2 ≠ 0 ∧ ∀ y ∈ l, x.1 < y.1 → val t y.2 = 0) ∨ (a = some x ∧ ∀ y ∈ l, val t y.2 = 0)) ∧
    (l.foldl (fun a x => if val t x.2 = 0 then a else some x) a = none → a = none ∧ ∀ y ∈ l, val t y.2 = 0)
  | [], a, _ => ⟨fun x h => .inr ⟨h, fun y hy => by cases hy⟩, fun h => ⟨h, fun y hy => by cases hy⟩⟩
  | z :: l, a, hp => by
    have hp' := List.pairwise_cons.1 hp
    obtain ⟨i1, i2⟩ := foldl_last t l (if val t z.2 = 0 then a else some z) hp'.2
    rw [List.foldl_cons]
    constructor
    · intro x h
      rcases i1 x h with ⟨h1, h2, h3⟩ | ⟨h1, h2⟩
      · left
        refine ⟨List.mem_cons_of_mem _ h1, h2, fun y hy hxy => ?_⟩
        rcases List.mem_cons.1 hy with rfl | hy
        · have := hp'.1 x h1; omega
        · exact h3 y hy hxy
      · split at h1
        · rename_i hz
          right
          refine ⟨h1, fun y hy => ?_⟩
          rcases List.mem_cons.1 hy with rfl | hy
          · exact hz
          · exact h2 y hy
        · rename_i hz
          left
          cases h1
          refine ⟨List.mem_cons_self .., hz, fun y hy hxy => ?_⟩
          rcases List.mem_cons.1 hy with rfl | hy
          · omega
          · exact h2 y hy
    · intro h
      obtain ⟨h1, h2⟩ := i2 h
      split at h1
      · rename_i hz
        refine ⟨h1, fun y hy => ?_⟩
        rcases List.mem_cons.1 hy with rfl | hy
        · exact hz
        · exact h2 y hy
      · cases h1

/-- (value, length) of the longest stored prefix. -/
structure Best (t : Trie) (s : Str) (v : Int) (n : Nat) : Prop where
  le : n ≤ s.length
  eq : look t (s.take n) = v
  ne : v ≠ 0
  top : ∀ m, n < m → m ≤ s.length → look t (s.take m) = 0
def NoBest (t : Trie) (s : Str) : Prop := ∀ m, m ≤ s.length → look t (s.take m) = 0

theorem Best.unique {t : Trie} {s : Str} {v w : Int} {n m : Nat} (h : Best t s v n) (k : Best t s w m) : v = w ∧ n = m := by
  have e : n = m := by
    rcases Nat.lt_trichotomy n m with h1 | h1 | h1
    · have := h.top m h1 k.le
      rw [k.eq] at this
      exact absurd this k.ne
    · exact h1
    · have := k.top n h1 h.le
      rw [h.eq] at this
      exact absurd this h.ne
  subst e
  exact ⟨h.eq.symm.trans k.eq, rfl⟩

theorem Best.not_none {t : Trie} {s : Str} {v : Int} {n : Nat} (h : Best t s v n) (k : NoBest t s) : False := h.ne (h.eq.symm.trans (k n h.le))

theorem last_way (t : Trie) (s : Str) : (∀ n i, last t (way t 0 0 s) = some (n, i) → Best t s (val t i) n) ∧ (last t (way t 0 0 s) = none → NoBest t s) := by
  obtain ⟨h1, h2⟩ := foldl_last t (way t 0 0 s) none (way_sorted s 0 0)
  have hl : ∀ m, m ≤ s.length → ∀ j, go t 0 (s.take m) = some j → (m, j) ∈ way t 0 0 s := fun m hm j hj => (way_mem s 0 0 _).2 ⟨m, hm, by simp, hj⟩
  constructor
  · intro n i h
    rcases h1 _ h with ⟨a, b, c⟩ | ⟨a, _⟩
    · obtain ⟨k, k1, k2, k3⟩ := (way_mem s 0 0 _).1 a
      simp only [Nat.zero_add] at k2
      subst k2
      refine ⟨k1, by simp only [look, k3], b, fun m hm hle => ?_⟩
      unfold look
      cases hg : go t 0 (s.take m) with
      | none => rfl
      | some j => exact c _ (hl m hle j hg) hm
    · cases a
  · intro h m hm
    obtain ⟨_, c⟩ := h2 h
    unfold look
    cases hg : go t 0 (s.take m) with
    | none => rfl
    | some j => exact c _ (hl m hm j hg)

theorem best_congr {t u : Trie} {s : Str} (ds : Dig s) (h : ∀ r, Dig r → look t r = look u r) {v : Int} {n : Nat} (k : Best t s v n) : Best u s v n := by
  have hd : ∀ m, Dig (s.take m) := fun m b hb => ds b (List.mem_of_mem_take hb)
  exact ⟨k.le, (h _ (hd n)).symm.trans k.eq, k.ne, fun m a b => (h _ (hd m)).symm.trans (k.top m a b)⟩
theorem noBest_congr {t u : Trie} {s : Str} (ds : Dig s) (h : ∀ r, Dig r → look t r = look u r) (k : NoBest t s) : NoBest u s := by
  have hd : ∀ m, Dig (s.take m) := fun m b hb => ds b (List.mem_of_mem_take hb)
  exact fun m a => (h _ (hd m)).symm.trans (k m a)

/-! ### Counting nodes -/
theorem pigeon : ∀ (n m : Nat) (f : Nat → Nat), (∀ i, i < n → f i < m) → (∀ i j, i < n → j < n → f i = f j → i = j) → n ≤ m := by
  intro n
  induction n with
  | zero => intro m f _ _; omega
  | succ n ih =>
    intro m f h1 h2
    have hm : f n < m := h1 n (by omega)
    have := ih (m - 1) (fun i => if f i = m - 1 then f n else f i) (fun i hi => by
      have a := h1 i (by omega)
      have b : f i ≠ f n := fun e => by have := h2 i n (by omega) (by omega) e; omega
      show (if f i = m - 1 then f n else f i) < m - 1
      split <;> omega) (fun i j hi hj e => by
      have a := h1 i (by omega)
      have a' := h1 j (by omega)
      have b : f i ≠ f n := fun e => by have := h2 i n (by omega) (by omega) e; omega
      have b' : f j ≠ f n := fun e => by have := h2 j n (by omega) (by omega) e; omega
      have e' : (if f i = m - 1 then f n else f i) = (if f j = m - 1 then f n else f j) := e
      refine h2 i j (by omega) (by omega) ?_
      split at e' <;> split at e' <;> omega)
    omega

/-- Whoever's strings all have nodes in the other has no more nodes. -/
theorem size_le {x t : Trie} (hx : Valid x) (ht : Valid t) (h : ∀ r, Dig r → go x 0 r ≠ none → go t 0 r ≠ none) : x.length ≤ t.length := by
  have key : ∀ i, i < x.length → ∃ s j, Dig s ∧ go x 0 s = some i ∧ go t 0 s = some j ∧ j < t.length := by
    intro i hi
    obtain ⟨s, ds, hs⟩ := reached hx i i (Nat.le_refl _) hi
    have := h s ds (by rw [hs]; simp)
    cases hg : go t 0 s with
    | none => exact absurd hg this
    | some j => exact ⟨s, j, ds, hs, hg, go_lt ht ht.pos hg⟩
  have hc : ∃ f : Nat → Nat, ∀ i, i < x.length → ∃ s, Dig s ∧ go x 0 s = some i ∧ go t 0 s = some (f i) ∧ f i < t.length := by
    refine ⟨fun i => if hi : i < x.length then (key i hi).choose_spec.choose else 0, fun i hi => ?_⟩
    simp only [dif_pos hi]
    exact ⟨_, (key i hi).choose_spec.choose_spec⟩
  obtain ⟨f, hf⟩ := hc
  refine pigeon x.length t.length f (fun i hi => by obtain ⟨_, _, _, _, h⟩ := hf i hi; exact h) (fun i j hi hj e => ?_)
  obtain ⟨s, ds, s1, s2, _⟩ := hf i hi
  obtain ⟨r, dr, r1, r2, _⟩ := hf j hj
  rw [← e] at r2
  have := go_inj ht _ s r rfl ds dr s2 r2
  subst this
  rw [s1] at r1
  exact Option.some.inj r1

end Go.Proofs.YthknfclhkmehgaaDoor.Tr
