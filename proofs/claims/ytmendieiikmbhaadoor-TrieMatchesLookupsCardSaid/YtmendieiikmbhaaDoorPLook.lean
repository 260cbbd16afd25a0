/-
  PLAIN LAW: the reference's Longest, below, Extends and Entries; TrieMatchesLookups' function answers true.
-/
import Derived.Test.YtmendieiikmbhaaDoorPRef
import Derived.Test.YtmendieiikmbhaaDoorFn7
import Derived.Test.YtmendieiikmbhaaDoorFn8
import Derived.Test.YtmendieiikmbhaaDoorFn9x1
import Derived.Test.YtmendieiikmbhaaDoorFn17
namespace Go.Proofs.YtmendieiikmbhaaDoor.Fn
open Go.RowKit Go.Proofs.YtmendieiikmbhaaDoorW.PrintWords Go.Proofs.YtmendieiikmbhaaDoorW.PrintLast Go.Proofs.YtmendieiikmbhaaDoorW.PrintMore
set_option linter.unusedVariables false
set_option linter.unusedSimpArgs false

theorem extract_list (s : ByteArray) (n : Nat) : (s.extract 0 n).data.toList = s.data.toList.take n := by
  rw [ByteArray.data_extract, Array.toList_extract]
  simp [List.extract]
theorem nodeV_look (T : Tr.Trie) (s : Tr.Str) : (nodeV T 0 s < 0 ∧ Tr.look T s = 0) ∨ (∃ j, Tr.go T 0 s = some j ∧ nodeV T 0 s = (j : Int) ∧ Tr.look T s = Tr.val T j) := by
  unfold nodeV Tr.look
  cases Tr.go T 0 s with
  | none => exact .inl ⟨by decide, rfl⟩
  | some j => exact .inr ⟨j, rfl, rfl, rfl⟩

theorem long_loop (l : Tl) (ok : Ok l) (s : ByteArray) (hs : s.size < 9223372036854775807) (hd : Tr.Dig s.data.toList) : ∀ (n : Nat), n ≤ s.size + 1 → (∀ m, n ≤ m → m ≤ s.size → Tr.look (tt l) (s.data.toList.take m) = 0) →
    Ev (fun k => crossbarref07_Longest.l0 k s ((n : Int) - 1) l) (longV l s) := by
  intro n
  induction n with
  | zero =>
    intro _ h
    refine Ev.step (fun k => crossbarref07_Longest.l0.eq_2 _ _ _ k) ?_
    refine Ev.if_neg (by omega) (Ev.done ?_)
    rcases longV_of ok hd with ⟨v, m, b, _⟩ | ⟨_, e⟩
    · refine absurd (h m (Nat.zero_le _) (by have := b.le; rw [size_len] at this; exact this)) ?_
      rw [b.eq]
      exact b.ne
    · exact e.symm
  | succ n ih =>
    intro hn h
    have hc : ((n + 1 : Nat) : Int) - 1 = (n : Int) := by omega
    have hdt : Tr.Dig (s.extract 0 n).data.toList := by rw [extract_list]; exact fun b hb => hd b (List.mem_of_mem_take hb)
    have hsz : (s.extract 0 n).size < 9223372036854775807 := by
      rw [← size_len, extract_list, List.length_take, size_len]
      omega
    rw [hc]
    refine Ev.step (fun k => crossbarref07_Longest.l0.eq_2 _ _ _ k) ?_
    refine Ev.if_pos (by omega) ?_
    refine Ev.if_pos (by omega) ?_
    refine Ev.if_pos (by omega) ?_
    rw [Int.toNat_natCast]
    refine Ev.bind (node_ref l ok _ hsz hdt) ?_
    rw [extract_list, w64 (by omega) (by omega)]
    have next : Tr.look (tt l) (s.data.toList.take n) = 0 → Ev (fun k => crossbarref07_Longest.l0 k s ((n : Int) - 1) l) (longV l s) := by
      intro h0
      refine ih (by omega) fun m hm hms => ?_
      rcases Nat.eq_or_lt_of_le hm with hh | hh
      · rw [← hh]; exact h0
      · exact h m hh hms
    rcases nodeV_look (tt l) (s.data.toList.take n) with ⟨h1, h2⟩ | ⟨j, h1, h2, h3⟩
    · refine Ev.if_neg (by omega) ?_
      exact next h2
    · rw [h2]
      have hj := Tr.go_lt ok.1 ok.1.pos h1
      rw [tt_length] at hj
      refine Ev.if_pos (by omega) ?_
      refine Ev.if_pos (by omega) ?_
      refine Ev.if_pos (by omega) ?_
      rw [show (rd_T71 l (j : Int)).f1 = Tr.val (tt l) j from (val_at l j).symm]
      by_cases h0 : Tr.val (tt l) j = 0
      · exact Ev.if_pos h0 (next (by rw [h3, h0]))
      · refine Ev.if_neg h0 (Ev.done ?_)
        have hb : Tr.Best (tt l) s.data.toList (Tr.val (tt l) j) n := ⟨by rw [size_len]; omega, h3, h0, fun m hm hms => h m hm (by rw [size_len] at hms; exact hms)⟩
        rcases longV_of ok hd with ⟨v, m, b, e⟩ | ⟨b, _⟩
        · obtain ⟨rfl, rfl⟩ := hb.unique b
          exact e.symm
        · exact (hb.not_none b).elim

theorem Long_ref (l : Tl) (s : ByteArray) (hs : s.size < 9223372036854775807) : Ev (fun k => crossbarref07_Longest.f k l s) (longV l s) := by
  unfold crossbarref07_Longest.f
  refine Ev.bind (Check_ref l) ?_
  have skip : longV l s = (0, 0, false) → Ev (fun k => crossbarref07_Longest.j0 k s true l) (longV l s) := by
    intro h
    refine Ev.step (fun k => crossbarref07_Longest.j0.eq_2 _ _ _ k) ?_
    exact Ev.if_pos rfl (Ev.done h.symm)
  by_cases h : ckv l = 0
  · refine Ev.if_pos h ?_
    have ok := ok_iff.1 h
    refine Ev.bind (Digits_ref s hs) ?_
    cases hd : digB s with
    | false => exact skip (longV_bad fun hh => by rw [(digB_iff s).2 hh.2] at hd; cases hd)
    | true =>
      have hdg := (digB_iff s).1 hd
      refine Ev.step (fun k => crossbarref07_Longest.j0.eq_2 _ _ _ k) ?_
      refine Ev.if_neg (by decide) ?_
      have hmn : mn (s.size : Int) 15 = (((min s.size 15) + 1 : Nat) : Int) - 1 := by
        unfold mn
        split <;> omega
      rw [hmn]
      refine long_loop l ok s hs hdg _ (by omega) fun m hm hms => ?_
      unfold Tr.look
      cases hg : Tr.go (tt l) 0 (s.data.toList.take m) with
      | none => rfl
      | some j =>
        have := Tr.go_len ok.1 hg
        rw [List.length_take, size_len] at this
        omega
  · exact Ev.if_neg h (skip (longV_bad fun hh => h (ok_iff.2 hh.1)))

/-! ### below -/
theorem ents_le {T : Tr.Trie} (hv : Tr.Valid T) {p0 : Tr.Str} {i : Nat} (hp : Tr.go T 0 p0 = some i) (d0 : Tr.Dig p0) (f : Nat) (pre : Tr.Str) : (Tr.ents T f i pre).length ≤ T.length := by
  have hs := Tr.sorted_ents (t := T) f i pre
  have key : ∀ n, n < (Tr.ents T f i pre).length → ∃ s j, Tr.Dig s ∧ ((Tr.ents T f i pre).getD n ([], 0)).1 = pre ++ s ∧ Tr.go T i s = some j ∧ j < T.length := by
    intro n hn
    have hm : (Tr.ents T f i pre).getD n ([], 0) ∈ Tr.ents T f i pre := by
      rw [List.getD_eq_getElem?_getD, List.getElem?_eq_getElem hn]
      exact List.getElem_mem hn
    obtain ⟨s, j, ds, h1, h2, _⟩ := (Tr.mem_ents _ _ _ _).1 hm
    exact ⟨s, j, ds, h1, h2, Tr.go_lt hv (Tr.go_lt hv hv.pos hp) h2⟩
  refine Tr.pigeon _ _ (fun n => (Tr.go T i (((Tr.ents T f i pre).getD n ([], 0)).1.drop pre.length)).getD 0) (fun n hn => ?_) (fun n m hn hm e => ?_)
  · obtain ⟨s, j, ds, h1, h2, h3⟩ := key n hn
    simp only [h1, List.drop_left, h2]
    exact h3
  · obtain ⟨s, j, ds, h1, h2, _⟩ := key n hn
    obtain ⟨r, j', dr, g1, g2, _⟩ := key m hm
    simp only [h1, g1, List.drop_left, h2, g2, Option.getD_some] at e
    subst e
    have he := Tr.go_inj hv _ (p0 ++ s) (p0 ++ r) rfl (d0.append ds) (d0.append dr) (by rw [Tr.go_append, hp]; exact h2) (by rw [Tr.go_append, hp]; exact g2)
    have he2 := List.append_cancel_left he
    subst he2
    have e3 := h1.trans g1.symm
    simp only [List.getD_eq_getElem?_getD, List.getElem?_eq_getElem hn, List.getElem?_eq_getElem hm, Option.getD_some] at e3
    rcases Nat.lt_trichotomy n m with h | h | h
    · have := List.pairwise_iff_getElem.1 hs n m hn hm h
      rw [e3, Tr.lt_irrefl] at this
      cases this
    · exact h
    · have := List.pairwise_iff_getElem.1 hs m n hm hn h
      rw [e3, Tr.lt_irrefl] at this
      cases this

theorem digit_cut : ∀ d : Nat, d < 10 → ((⟨#[48, 49, 50, 51, 52, 53, 54, 55, 56, 57]⟩ : ByteArray).extract d (d + 1)).data.toList = [Tr.dig d] := by
  intro d hd
  match d, hd with
  | 0, _ => rfl
  | 1, _ => rfl
  | 2, _ => rfl
  | 3, _ => rfl
  | 4, _ => rfl
  | 5, _ => rfl
  | 6, _ => rfl
  | 7, _ => rfl
  | 8, _ => rfl
  | 9, _ => rfl
theorem append_list (a b : ByteArray) : (a ++ b).data.toList = a.data.toList ++ b.data.toList := by
  rw [ByteArray.data_append, Array.toList_append]

/-- What the loop over the digits has gathered. -/
def kidsE (T : Tr.Trie) (f i : Nat) (pre : Tr.Str) (d : Nat) : Tr.Ents := (List.range d).flatMap fun d => if Tr.kid T i d = 0 then [] else Tr.ents T f (Tr.kid T i d).toNat (pre ++ [Tr.dig d])
theorem kidsE_succ (T : Tr.Trie) (f i : Nat) (pre : Tr.Str) (d : Nat) : kidsE T f i pre (d + 1) = kidsE T f i pre d ++ (if Tr.kid T i d = 0 then [] else Tr.ents T f (Tr.kid T i d).toNat (pre ++ [Tr.dig d])) := by
  unfold kidsE
  rw [List.range_succ, List.flatMap_append]
  simp
theorem kidsE_le (T : Tr.Trie) (f i : Nat) (pre : Tr.Str) : ∀ (m d : Nat), (kidsE T f i pre d).length ≤ (kidsE T f i pre (d + m)).length := by
  intro m
  induction m with
  | zero => intro d; exact Nat.le_refl _
  | succ m ih =>
    intro d
    refine Nat.le_trans (ih d) ?_
    rw [show d + (m + 1) = (d + m) + 1 from rfl, kidsE_succ, List.length_append]
    omega

theorem below_ref (l : Tl) (ok : Ok l) : ∀ (f i : Nat) (p0 : Tr.Str) (pre : ByteArray), Tr.go (tt l) 0 p0 = some i → Tr.Dig p0 → p0.length + (f + 1) = 16 → pre.size ≤ p0.length →
    Ev (fun k => crossbarref07_below.f k l (i : Int) pre) ((Tr.ents (tt l) (f + 1) i pre.data.toList).map toS) := by
  have hT := tt_length l
  have hll := ok.2
  intro f
  induction f with
  | zero =>
    intro i p0 pre hp d0 hl hs
    have hi := Tr.go_lt ok.1 ok.1.pos hp
    have hk : ∀ d, d < 10 → Tr.kid (tt l) i d = 0 := by
      intro d hd
      rcases Classical.em (Tr.kid (tt l) i d = 0) with h | h
      · exact h
      · have h2 : Tr.go (tt l) 0 (p0 ++ [Tr.dig d]) = some (Tr.kid (tt l) i d).toNat := by
          rw [Tr.go_snoc, hp, Option.bind_some, Tr.dgt_dig hd, _root_.if_neg h]
        have := Tr.go_len ok.1 h2
        rw [List.length_append, List.length_singleton] at this
        omega
    have loop : ∀ (m d : Nat) (acc : El), 10 - d = m → d ≤ 10 → Ev (fun k => crossbarref07_below.l0 k (i : Int) pre acc (d : Int) l) acc := by
      intro m
      induction m with
      | zero =>
        intro d acc hm hd
        refine Ev.step (fun k => crossbarref07_below.l0.eq_2 _ _ _ _ _ k) ?_
        exact Ev.if_neg (by omega) (Ev.now _)
      | succ m ih =>
        intro d acc hm hd
        refine Ev.step (fun k => crossbarref07_below.l0.eq_2 _ _ _ _ _ k) ?_
        refine Ev.if_pos (by omega) ?_
        refine Ev.if_pos (by omega) ?_
        refine Ev.if_pos (by omega) ?_
        refine Ev.if_pos (by omega) ?_
        rw [kid_eta l i d (by omega), w64s (by omega)]
        exact Ev.if_pos (hk d (by omega)) (ih (d + 1) acc (by omega) (by omega))
    have hents : Tr.ents (tt l) (0 + 1) i pre.data.toList = if Tr.val (tt l) i = 0 then [] else [(pre.data.toList, Tr.val (tt l) i)] := by
      rw [Tr.ents]
      have : ((List.range 10).flatMap fun d => if Tr.kid (tt l) i d = 0 then [] else Tr.ents (tt l) 0 (Tr.kid (tt l) i d).toNat (pre.data.toList ++ [Tr.dig d])) = [] := by
        rw [List.flatMap_eq_nil_iff]
        intro d hd
        rw [_root_.if_pos (hk d (List.mem_range.1 hd))]
      rw [this, List.append_nil]
    refine Ev.step (fun k => crossbarref07_below.f.eq_2 _ _ _ k) ?_
    refine Ev.if_pos (by omega) ?_
    refine Ev.if_pos (by omega) ?_
    rw [show (rd_T71 l (i : Int)).f1 = Tr.val (tt l) i from (val_at l i).symm, hents]
    by_cases h0 : Tr.val (tt l) i = 0
    · rw [_root_.if_pos h0]
      refine Ev.if_pos h0 ?_
      refine Ev.step (fun k => crossbarref07_below.j0.eq_2 _ _ _ _ k) ?_
      exact loop 10 0 _ rfl (by omega)
    · rw [_root_.if_neg h0]
      refine Ev.if_neg h0 ?_
      refine Ev.if_pos (by decide) ?_
      refine Ev.step (fun k => crossbarref07_below.j0.eq_2 _ _ _ _ k) ?_
      exact loop 10 0 _ rfl (by omega)
  | succ f ih =>
    intro i p0 pre hp d0 hl hs
    have hi := Tr.go_lt ok.1 ok.1.pos hp
    have htot := ents_le ok.1 hp d0 (f + 1 + 1) pre.data.toList
    obtain ⟨own, hown⟩ : ∃ own, own = (if Tr.val (tt l) i = 0 then ([] : Tr.Ents) else [(pre.data.toList, Tr.val (tt l) i)]) := ⟨_, rfl⟩
    have hents : Tr.ents (tt l) (f + 1 + 1) i pre.data.toList = own ++ kidsE (tt l) (f + 1) i pre.data.toList 10 := by
      rw [Tr.ents, hown]
      rfl
    rw [hents, List.length_append] at htot
    have loop : ∀ (m d : Nat), 10 - d = m → d ≤ 10 → Ev (fun k => crossbarref07_below.l0 k (i : Int) pre ((own ++ kidsE (tt l) (f + 1) i pre.data.toList d).map toS) (d : Int) l) ((own ++ kidsE (tt l) (f + 1) i pre.data.toList 10).map toS) := by
      intro m
      induction m with
      | zero =>
        intro d hm hd
        obtain rfl : d = 10 := by omega
        refine Ev.step (fun k => crossbarref07_below.l0.eq_2 _ _ _ _ _ k) ?_
        exact Ev.if_neg (by omega) (Ev.now _)
      | succ m ihm =>
        intro d hm hd
        have hd10 : d < 10 := by omega
        have hn := ihm (d + 1) (by omega) (by omega)
        rw [kidsE_succ] at hn
        refine Ev.step (fun k => crossbarref07_below.l0.eq_2 _ _ _ _ _ k) ?_
        refine Ev.if_pos (by omega) ?_
        refine Ev.if_pos (by omega) ?_
        refine Ev.if_pos (by omega) ?_
        refine Ev.if_pos (by omega) ?_
        rw [kid_eta l i d hd10, w64s (by omega)]
        by_cases h0 : Tr.kid (tt l) i d = 0
        · rw [_root_.if_pos h0, List.append_nil] at hn
          exact Ev.if_pos h0 hn
        · rw [_root_.if_neg h0] at hn
          refine Ev.if_neg h0 ?_
          have hb := ok.1.kids i d h0
          obtain ⟨c, hc⟩ : ∃ c : Nat, Tr.kid (tt l) i d = (c : Int) := ⟨(Tr.kid (tt l) i d).toNat, by omega⟩
          have hp2 : Tr.go (tt l) 0 (p0 ++ [Tr.dig d]) = some c := by
            rw [Tr.go_snoc, hp, Option.bind_some, Tr.dgt_dig hd10, _root_.if_neg h0, hc]
            rfl
          have hcut := digit_cut d hd10
          have hsz : (pre ++ ((⟨#[48, 49, 50, 51, 52, 53, 54, 55, 56, 57]⟩ : ByteArray).extract d (d + 1))).size ≤ (p0 ++ [Tr.dig d]).length := by
            rw [← size_len, append_list, hcut, List.length_append, List.length_append, size_len]
            simp only [List.length_singleton]
            omega
          have hbel := ih c (p0 ++ [Tr.dig d]) (pre ++ ((⟨#[48, 49, 50, 51, 52, 53, 54, 55, 56, 57]⟩ : ByteArray).extract d (d + 1))) hp2 (d0.append (Tr.Dig.one (Tr.isDig_dig hd10))) (by rw [List.length_append, List.length_singleton]; omega) hsz
          rw [append_list, hcut] at hbel
          have hle := kidsE_le (tt l) (f + 1) i pre.data.toList (10 - (d + 1)) (d + 1)
          rw [show d + 1 + (10 - (d + 1)) = 10 by omega, kidsE_succ, _root_.if_neg h0, List.length_append, hc, Int.toNat_natCast] at hle
          refine Ev.if_pos (by omega) ?_
          refine Ev.if_pos (by omega) ?_
          rw [Int.toNat_natCast, Int.toNat_natCast]
          refine Ev.if_pos (by omega) ?_
          rw [hc]
          refine Ev.bind hbel ?_
          refine Ev.if_pos (by rw [List.length_map, List.length_map, List.length_append]; omega) ?_
          rw [hc, Int.toNat_natCast] at hn
          rw [← List.map_append, List.append_assoc]
          exact hn
    refine Ev.step (fun k => crossbarref07_below.f.eq_2 _ _ _ k) ?_
    refine Ev.if_pos (by omega) ?_
    refine Ev.if_pos (by omega) ?_
    rw [show (rd_T71 l (i : Int)).f1 = Tr.val (tt l) i from (val_at l i).symm, hents]
    have h00 := loop 10 0 rfl (by omega)
    have hk0 : kidsE (tt l) (f + 1) i pre.data.toList 0 = [] := rfl
    rw [hk0, List.append_nil] at h00
    by_cases h0 : Tr.val (tt l) i = 0
    · rw [_root_.if_pos h0] at hown
      subst hown
      refine Ev.if_pos h0 ?_
      refine Ev.step (fun k => crossbarref07_below.j0.eq_2 _ _ _ _ k) ?_
      exact h00
    · rw [_root_.if_neg h0] at hown
      subst hown
      refine Ev.if_neg h0 ?_
      refine Ev.if_pos (by decide) ?_
      refine Ev.step (fun k => crossbarref07_below.j0.eq_2 _ _ _ _ k) ?_
      exact h00

/-! ### Extends and Entries -/
theorem Ent_ref (l : Tl) : Ev (fun k => crossbarref07_Entries.f k l) (entV l) := by
  unfold crossbarref07_Entries.f
  refine Ev.bind (Check_ref l) ?_
  by_cases h : ckv l = 0
  · have ok := ok_iff.1 h
    refine Ev.if_pos h ?_
    have hb := below_ref l ok 15 0 [] ⟨#[]⟩ rfl Tr.Dig.nil rfl (Nat.le_refl _)
    rw [entV_ok ok]
    exact Ev.bind hb (Ev.now _)
  · refine Ev.if_neg h (Ev.done ?_)
    unfold entV
    rw [_root_.if_pos h]

theorem ext_count {T : Tr.Trie} {f i : Nat} {pre : Tr.Str} : longerE (Tr.ents T f i pre) pre.length = true ↔ (1 < (Tr.ents T f i pre).length ∨ ((Tr.ents T f i pre).length = 1 ∧ ((Tr.ents T f i pre).getD 0 ([], 0)).1 ≠ pre)) := by
  have hs := Tr.sorted_ents (t := T) f i pre
  have key : ∀ e ∈ Tr.ents T f i pre, (pre.length < e.1.length ↔ e.1 ≠ pre) := by
    intro e he
    obtain ⟨s, j, ds, h1, _⟩ := (Tr.mem_ents _ _ _ _).1 he
    rw [h1, List.length_append]
    cases s with
    | nil => simp
    | cons b s => simp
  simp only [longerE, List.any_eq_true, decide_eq_true_eq]
  cases hE : Tr.ents T f i pre with
  | nil => simp
  | cons a m =>
    rw [hE] at key hs
    cases m with
    | nil =>
      constructor
      · rintro ⟨e, he, hl⟩
        rw [List.mem_singleton] at he
        subst he
        exact .inr ⟨rfl, (key e (List.mem_cons_self ..)).1 hl⟩
      · rintro (h | ⟨_, h⟩)
        · simp at h
        · exact ⟨a, List.mem_cons_self .., (key a (List.mem_cons_self ..)).2 h⟩
    | cons b m =>
      constructor
      · intro _
        exact .inl (by simp)
      · intro _
        have hne : a.1 ≠ b.1 := by
          intro h
          have := (List.pairwise_cons.1 hs).1 b (List.mem_cons_self ..)
          rw [h, Tr.lt_irrefl] at this
          cases this
        rcases Classical.em (a.1 = pre) with h | h
        · exact ⟨b, by simp, (key b (by simp)).2 (fun hh => hne (h.trans hh.symm))⟩
        · exact ⟨a, by simp, (key a (by simp)).2 h⟩

theorem Ext_ref (l : Tl) (s : ByteArray) (hs : s.size < 9223372036854775807) : Ev (fun k => crossbarref07_Extends.f k l s) (extV l s) := by
  unfold crossbarref07_Extends.f
  refine Ev.bind (Check_ref l) ?_
  have skip : extV l s = false → Ev (fun k => crossbarref07_Extends.j0 k s true l) (extV l s) := by
    intro h
    refine Ev.step (fun k => crossbarref07_Extends.j0.eq_2 _ _ _ k) ?_
    exact Ev.if_pos rfl (Ev.done h.symm)
  by_cases h : ckv l = 0
  · refine Ev.if_pos h ?_
    have ok := ok_iff.1 h
    refine Ev.bind (Digits_ref s hs) ?_
    cases hd : digB s with
    | false => exact Ev.if_neg (by decide) (skip (extV_bad fun hh => by rw [(digB_iff s).2 hh.2] at hd; cases hd))
    | true =>
      have hdg := (digB_iff s).1 hd
      have hev : extV l s = match Tr.go (tt l) 0 s.data.toList with
          | none => false
          | some i => longerE (Tr.ents (tt l) (16 - s.size) i s.data.toList) s.size := by
        unfold extV
        rw [_root_.if_neg (fun hh => hh h), hd, _root_.if_neg (by decide)]
        rfl
      refine Ev.if_pos rfl ?_
      by_cases h15 : (s.size : Int) > 15
      · rw [decide_eq_true h15]
        refine skip ?_
        rw [hev]
        cases hg : Tr.go (tt l) 0 s.data.toList with
        | none => rfl
        | some i =>
          have := Tr.go_len ok.1 hg
          rw [size_len] at this
          omega
      · rw [decide_eq_false h15]
        refine Ev.step (fun k => crossbarref07_Extends.j0.eq_2 _ _ _ k) ?_
        refine Ev.if_neg (by decide) ?_
        refine Ev.bind (node_ref l ok s hs hdg) ?_
        rw [hev]
        unfold nodeV
        cases hg : Tr.go (tt l) 0 s.data.toList with
        | none => exact Ev.if_pos (by decide) (Ev.now _)
        | some i =>
          refine Ev.if_neg (by simp) ?_
          have hf : 15 - s.size + 1 = 16 - s.size := by omega
          have hb := below_ref l ok (15 - s.size) i s.data.toList s hg hdg (by rw [size_len]; omega) (by rw [size_len]; exact Nat.le_refl _)
          rw [hf] at hb
          refine Ev.bind hb ?_
          have hc := ext_count (T := tt l) (f := 16 - s.size) (i := i) (pre := s.data.toList)
          rw [size_len] at hc
          rw [List.length_map]
          by_cases h1 : ((Tr.ents (tt l) (16 - s.size) i s.data.toList).length : Int) > 1
          · exact Ev.if_pos h1 (Ev.done (hc.2 (.inl (by omega))).symm)
          refine Ev.if_neg h1 ?_
          by_cases h2 : ((Tr.ents (tt l) (16 - s.size) i s.data.toList).length : Int) = 1
          · refine Ev.if_pos h2 ?_
            refine Ev.if_pos (by omega) (Ev.done ?_)
            have hrd : (rd_T39 ((Tr.ents (tt l) (16 - s.size) i s.data.toList).map toS) 0).f0.toList = ((Tr.ents (tt l) (16 - s.size) i s.data.toList).getD 0 ([], 0)).1 := by
              unfold rd_T39
              rw [bytes_list]
              cases Tr.ents (tt l) (16 - s.size) i s.data.toList with
              | nil => rfl
              | cons a m => rfl
            rw [hrd, bytes_list, Bool.eq_iff_iff, bne_iff_ne, hc]
            constructor
            · intro hh
              exact .inr ⟨by omega, hh⟩
            · rintro (hh | ⟨_, hh⟩)
              · omega
              · exact hh
          · refine Ev.if_neg h2 (Ev.done ?_)
            symm
            rw [Bool.eq_false_iff]
            intro hh
            rcases hc.1 hh with hh | ⟨hh, _⟩ <;> omega
  · exact Ev.if_neg h (skip (extV_bad fun hh => h (ok_iff.2 hh.1)))

theorem lookups_pure (l : Tl) (a1 : ByteArray) : ∃ k, crossbarlaw07_TrieMatchesLookups.f k l a1 = some true := by
  refine Ev.rounds (g := fun k => crossbarlaw07_TrieMatchesLookups.f k l a1) ?_
  unfold crossbarlaw07_TrieMatchesLookups.f
  refine Ev.bind (a := true) (Ev.done rfl) ?_
  refine Ev.if_pos rfl ?_
  have skip : Ev (fun k => crossbarlaw07_TrieMatchesLookups.j0 k a1 true l) true := by
    refine Ev.step (fun k => crossbarlaw07_TrieMatchesLookups.j0.eq_2 _ _ _ k) ?_
    exact Ev.if_pos rfl (Ev.now _)
  unfold crossbarref07_Few.f
  refine Ev.bind (Ev.now _) ?_
  by_cases h5 : (l.length : Int) ≤ 5000
  · refine Ev.if_pos (decide_eq_true h5) ?_
    by_cases h1 : (a1.size : Int) > 100
    · rw [decide_eq_true h1]
      exact skip
    rw [decide_eq_false h1]
    refine Ev.step (fun k => crossbarlaw07_TrieMatchesLookups.j0.eq_2 _ _ _ k) ?_
    refine Ev.if_neg (by decide) ?_
    refine Ev.bind (Long_ev l a1 (by omega)) ?_
    refine Ev.bind (Long_ref l a1 (by omega)) ?_
    refine Ev.if_pos rfl ?_
    refine Ev.if_pos rfl ?_
    refine Ev.if_pos (beq_self_eq_true _) ?_
    refine Ev.bind (Ext_ev l a1 (by omega)) ?_
    refine Ev.bind (Ext_ref l a1 (by omega)) ?_
    refine Ev.if_pos (beq_self_eq_true _) ?_
    refine Ev.bind (Ent_ev l) ?_
    refine Ev.bind (Ent_ref l) ?_
    refine Ev.bind (SameE_refl _ (by have := entV_len l; omega)) ?_
    exact Ev.now _
  · exact Ev.if_neg (by simpa using h5) skip

end Go.Proofs.YtmendieiikmbhaaDoor.Fn
