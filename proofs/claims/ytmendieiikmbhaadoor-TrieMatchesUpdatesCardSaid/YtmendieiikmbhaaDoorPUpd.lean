/-
  PLAIN LAW: the reference's Put and Drop; TrieMatchesUpdates' function answers true.
-/
import Derived.Test.YtmendieiikmbhaaDoorPRef
import Derived.Test.YtmendieiikmbhaaDoorPSame
import Derived.Test.YtmendieiikmbhaaDoorFn11x1
import Derived.Test.YtmendieiikmbhaaDoorFn20
namespace Go.Proofs.YtmendieiikmbhaaDoor.Fn
open Go.RowKit Go.Proofs.YtmendieiikmbhaaDoorW.PrintWords Go.Proofs.YtmendieiikmbhaaDoorW.PrintLast Go.Proofs.YtmendieiikmbhaaDoorW.PrintMore
set_option linter.unusedVariables false
set_option linter.unusedSimpArgs false

theorem Prefix_ref (s : ByteArray) (hs : s.size < 9223372036854775807) : Ev (fun k => crossbarref07_Prefix.f k s) (decide (s.size ≤ 15 ∧ digB s = true)) := by
  unfold crossbarref07_Prefix.f
  by_cases h : (s.size : Int) ≤ 15
  · refine Ev.if_pos h ?_
    refine Ev.bind (Digits_ref s hs) (Ev.done ?_)
    cases hd : digB s with
    | true => exact (decide_eq_true ⟨by omega, rfl⟩).symm
    | false => exact (decide_eq_false (fun hh => by cases hh.2)).symm
  · rw [decide_eq_false (fun hh => h (by omega))]
    exact Ev.if_neg h (Ev.now _)

theorem at_setKd (x : S71) (d : Nat) (hd : d < 10) (v : Int) : at69 (setKd x (d : Int) v).f0 (d : Int) = v := by
  match d, hd with
  | 0, _ => rfl
  | 1, _ => rfl
  | 2, _ => rfl
  | 3, _ => rfl
  | 4, _ => rfl
  | 5, _ => rfl
  | 6, _ => rfl
  | 7, _ => rfl
  | 8, _ => rfl
  | 9, _ => rfl

theorem grown_loop (s : ByteArray) (hs : s.size ≤ 15) (hd : Tr.Dig s.data.toList) : ∀ (m i : Nat) (ns : Tl) (a : Nat), s.size - i = m → i ≤ s.size → a < ns.length → ns.length ≤ 4096 + i → Inn (tt ns) →
    Ev (fun k => crossbarref07_grown.l0 k s ns (a : Int) (i : Int)) (growS ns (a : Int) (s.data.toList.drop i)).1 := by
  intro m
  induction m with
  | zero =>
    intro i ns a hm hi ha hn hin
    obtain rfl : i = s.size := by omega
    rw [List.drop_eq_nil_of_le (by rw [size_len]; omega)]
    refine Ev.step (fun k => crossbarref07_grown.l0.eq_2 _ _ _ _ k) ?_
    exact Ev.if_neg (by omega) (Ev.now _)
  | succ m ih =>
    intro i ns a hm hi ha hn hin
    have hil : i < s.size := by omega
    have hsd : Tr.IsDig s[i] := hd _ (by
      have := List.mem_of_mem_drop (i := i) (l := s.data.toList) (a := s[i]) (by rw [strByte s i hil]; exact List.mem_cons_self ..)
      exact this)
    have h10 : Tr.dgt s[i] < 10 := by unfold Tr.dgt; unfold Tr.IsDig at hsd; omega
    rw [strByte s i hil]
    refine Ev.step (fun k => crossbarref07_grown.l0.eq_2 _ _ _ _ k) ?_
    rw [dgt_wrap s i hil hsd, kid_eta ns a _ h10, w64s (by omega)]
    refine Ev.if_pos (by omega) ?_
    refine Ev.if_pos (by omega) ?_
    refine Ev.if_pos (by omega) ?_
    refine Ev.if_pos (by omega) ?_
    refine Ev.if_pos (by omega) ?_
    refine Ev.if_pos (by omega) ?_
    simp only [growS, Int.toNat_natCast]
    by_cases h0 : Tr.kid (tt ns) a (Tr.dgt s[i]) = 0
    · rw [_root_.if_pos h0]
      refine Ev.if_pos h0 ?_
      refine Ev.bind (Ev.now _) ?_
      refine Ev.if_pos (by rw [List.length_set]; omega) ?_
      have e := at_setKd (rd_T71 ns (a : Int)) (Tr.dgt s[i]) h10 (ns.length : Int)
      have hnext := ih (i + 1) (ns.set a (setKd (rd_T71 ns (a : Int)) (Tr.dgt s[i] : Int) (ns.length : Int)) ++ [z71]) ns.length (by omega) (by omega) (by simp) (by simp; omega) (inn_sprout hin ha h10)
      have hh : Ev (fun n => crossbarref07_grown.l0 n s (ns.set a (setKd (rd_T71 ns (a : Int)) (Tr.dgt s[i] : Int) (ns.length : Int)) ++ [z71]) (at69 (setKd (rd_T71 ns (a : Int)) (Tr.dgt s[i] : Int) (ns.length : Int)).f0 (Tr.dgt s[i] : Int)) ((i + 1 : Nat) : Int)) (growS (ns.set a (setKd (rd_T71 ns (a : Int)) (Tr.dgt s[i] : Int) (ns.length : Int)) ++ [z71]) (ns.length : Int) (s.data.toList.drop (i + 1))).1 := by
        rw [e]
        exact hnext
      exact hh
    · rw [_root_.if_neg h0]
      refine Ev.if_neg h0 ?_
      have hr := hin a _ (by rw [tt_length]; exact ha) h10
      rw [tt_length] at hr
      obtain ⟨c, hc⟩ : ∃ c : Nat, Tr.kid (tt ns) a (Tr.dgt s[i]) = (c : Int) := ⟨(Tr.kid (tt ns) a (Tr.dgt s[i])).toNat, by omega⟩
      rw [hc] at hr ⊢
      exact ih (i + 1) ns c (by omega) (by omega) (by omega) (by omega) hin
theorem grown_ref (l : Tl) (ok : Ok l) (s : ByteArray) (hs : s.size ≤ 15) (hd : Tr.Dig s.data.toList) : Ev (fun k => crossbarref07_grown.f k l s) (growS l 0 s.data.toList).1 := by
  unfold crossbarref07_grown.f
  refine Ev.bind (Ev.now _) ?_
  refine Ev.if_pos (by have := ok.2; simp only [List.length_nil]; omega) ?_
  exact grown_loop s hs hd s.size 0 l 0 rfl (by omega) (by have := ok.1.pos; rw [tt_length] at this; exact this) (by have := ok.2; omega) (inn_valid ok.1)
theorem with_ref (l : Tl) (a : Nat) (v : Int) (ha : a < l.length) (hl : l.length ≤ 5000) : crossbarref07_with.f l (a : Int) v = some (l.set a (setVl (rd_T71 l (a : Int)) v)) := by
  unfold crossbarref07_with.f
  rw [Option.bind_some, if_pos (by simp only [List.length_nil]; omega), Option.bind_some, List.nil_append, if_pos (by omega), if_pos (by omega), Int.toNat_natCast]
  rfl

theorem Put_ref (l : Tl) (s : ByteArray) (v : Int) (hs : s.size < 9223372036854775807) : Ev (fun k => crossbarref07_Put.f k l s v) (putV l s v) := by
  unfold crossbarref07_Put.f
  refine Ev.bind (Check_ref l) ?_
  unfold putV chkV
  by_cases h : ckv l = 0
  · have ok := ok_iff.1 h
    refine Ev.if_pos h ?_
    refine Ev.bind (Prefix_ref s hs) ?_
    rw [_root_.if_pos h]
    by_cases hp : s.size ≤ 15 ∧ digB s = true
    · have hd := (digB_iff s).1 hp.2
      refine Ev.if_pos (decide_eq_true hp) ?_
      rw [_root_.if_pos hp, _root_.if_neg (by decide)]
      have bad : v < 1 ∨ v > 1099511627776 → Ev (fun k => crossbarref07_Put.j0 k s v true l) ([], 1) := by
        intro _
        refine Ev.step (fun k => crossbarref07_Put.j0.eq_2 _ _ _ _ k) ?_
        exact Ev.if_pos rfl (Ev.now _)
      by_cases hv : v < 1 ∨ v > 1099511627776
      · rw [_root_.if_pos hv]
        by_cases h1 : v < 1
        · exact Ev.if_pos h1 (bad hv)
        · refine Ev.if_neg h1 ?_
          rw [decide_eq_true (show v > 1099511627776 by omega)]
          exact bad hv
      · rw [_root_.if_neg hv]
        refine Ev.if_neg (by omega) ?_
        rw [decide_eq_false (show ¬ v > 1099511627776 by omega)]
        refine Ev.step (fun k => crossbarref07_Put.j0.eq_2 _ _ _ _ k) ?_
        refine Ev.if_neg (by decide) ?_
        refine Ev.bind (grown_ref l ok s hp.1 hd) ?_
        have hg := grow_len ok hd
        have hgr := Tr.grown ok.1 hd (by rw [size_len]; exact hp.1)
        by_cases h4 : (growS l 0 s.data.toList).1.length > 4096
        · rw [_root_.if_pos h4]
          exact Ev.if_pos (by omega) (Ev.now _)
        · rw [_root_.if_neg h4]
          refine Ev.if_neg (by omega) ?_
          have okg : Ok (growS l 0 s.data.toList).1 := ⟨by rw [hg.1]; exact hgr.valid, by omega⟩
          have hj := Tr.go_lt hgr.valid hgr.valid.pos hgr.here
          rw [← hg.1, tt_length] at hj
          have hnode : nodeV (tt (growS l 0 s.data.toList).1) 0 s.data.toList = (((Tr.grow (tt l) 0 s.data.toList).2 : Nat) : Int) := by
            unfold nodeV
            rw [hg.1, hgr.here]
          refine Ev.bind (node_ref _ okg s hs hd) ?_
          rw [hnode, with_ref _ _ _ hj (by omega), hg.2.1, Int.toNat_natCast]
          exact Ev.bind (Ev.now _) (Ev.now _)
    · rw [_root_.if_neg hp, _root_.if_pos (by decide)]
      exact Ev.if_neg (by simpa using hp) (Ev.now _)
  · rw [_root_.if_neg h, _root_.if_pos h]
    exact Ev.if_neg h (Ev.now _)

theorem Drop_ref (l : Tl) (s : ByteArray) (hs : s.size < 9223372036854775807) : Ev (fun k => crossbarref07_Drop.f k l s) (dropV l s) := by
  unfold crossbarref07_Drop.f
  refine Ev.bind (Check_ref l) ?_
  unfold dropV chkV
  by_cases h : ckv l = 0
  · have ok := ok_iff.1 h
    refine Ev.if_pos h ?_
    refine Ev.bind (Prefix_ref s hs) ?_
    rw [_root_.if_pos h]
    by_cases hp : s.size ≤ 15 ∧ digB s = true
    · have hd := (digB_iff s).1 hp.2
      refine Ev.if_pos (decide_eq_true hp) ?_
      rw [_root_.if_pos hp, _root_.if_pos rfl]
      refine Ev.bind (node_ref l ok s hs hd) ?_
      unfold nodeV dropL
      cases hg : Tr.go (tt l) 0 s.data.toList with
      | none => exact Ev.if_pos (by decide) (Ev.now _)
      | some j =>
        have hj := Tr.go_lt ok.1 ok.1.pos hg
        rw [tt_length] at hj
        refine Ev.if_neg (by simp) ?_
        have := ok.2
        simp only
        rw [with_ref l j 0 hj (by omega)]
        exact Ev.bind (Ev.now _) (Ev.now _)
    · rw [_root_.if_neg hp, _root_.if_neg (by decide)]
      exact Ev.if_neg (by simpa using hp) (Ev.now _)
  · rw [_root_.if_neg h, _root_.if_neg h]
    exact Ev.if_neg h (Ev.now _)

theorem putV_len (l : Tl) (s : ByteArray) (v : Int) : (putV l s v).1.length ≤ 4096 := by
  rcases Classical.em ((putV l s v).2 = 0) with h | h
  · exact (putV_okay h).2.2
  · rw [putV_nil h]
    simp
theorem dropV_len (l : Tl) (s : ByteArray) : (dropV l s).1.length ≤ l.length := by
  unfold dropV
  split
  · rw [← tt_length, tt_dropL, Tr.drop_size, tt_length]
    exact Nat.le_refl _
  · simp

theorem updates_pure (l : Tl) (a1 : ByteArray) (a2 : Int) : ∃ k, crossbarlaw07_TrieMatchesUpdates.f k l a1 a2 = some true := by
  refine Ev.rounds (g := fun k => crossbarlaw07_TrieMatchesUpdates.f k l a1 a2) ?_
  unfold crossbarlaw07_TrieMatchesUpdates.f
  refine Ev.bind (a := true) (Ev.done rfl) ?_
  refine Ev.if_pos rfl ?_
  have skip : Ev (fun k => crossbarlaw07_TrieMatchesUpdates.j0 k a1 a2 true l) true := by
    refine Ev.step (fun k => crossbarlaw07_TrieMatchesUpdates.j0.eq_2 _ _ _ _ k) ?_
    exact Ev.if_pos rfl (Ev.now _)
  unfold crossbarref07_Few.f
  refine Ev.bind (Ev.now _) ?_
  by_cases h5 : (l.length : Int) ≤ 5000
  · refine Ev.if_pos (decide_eq_true h5) ?_
    by_cases h1 : (a1.size : Int) > 100
    · rw [decide_eq_true h1]
      exact skip
    rw [decide_eq_false h1]
    refine Ev.step (fun k => crossbarlaw07_TrieMatchesUpdates.j0.eq_2 _ _ _ _ k) ?_
    refine Ev.if_neg (by decide) ?_
    refine Ev.bind (Put_ev l a1 a2 (by omega)) ?_
    refine Ev.bind (Put_ref l a1 a2 (by omega)) ?_
    refine Ev.bind (Drop_ev l a1 (by omega)) ?_
    refine Ev.bind (Drop_ref l a1 (by omega)) ?_
    refine Ev.bind (Check_ev l) ?_
    refine Ev.bind (Check_ref l) ?_
    refine Ev.if_pos rfl ?_
    refine Ev.bind (SameT_refl _ (by have := putV_len l a1 a2; omega)) ?_
    refine Ev.if_pos rfl ?_
    refine Ev.if_pos rfl ?_
    refine Ev.bind (SameT_refl _ (by have := dropV_len l a1; omega)) ?_
    refine Ev.if_pos rfl ?_
    exact Ev.done (beq_self_eq_true _)
  · exact Ev.if_neg (by simpa using h5) skip

end Go.Proofs.YtmendieiikmbhaaDoor.Fn
