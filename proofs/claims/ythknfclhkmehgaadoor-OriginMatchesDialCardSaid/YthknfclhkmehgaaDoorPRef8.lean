/-
  PLAIN LAW: the reference's functions of chapter 8 say what the rules say.
-/
import Derived.Test.YthknfclhkmehgaaDoorPFew
import Derived.Test.YthknfclhkmehgaaDoorFn3
import Derived.Test.YthknfclhkmehgaaDoorFn4
import Derived.Test.YthknfclhkmehgaaDoorFn5
import Derived.Test.YthknfclhkmehgaaDoorFn6
namespace Go.Proofs.YthknfclhkmehgaaDoor.Fn
open Go.RowKit Go.Proofs.YthknfclhkmehgaaDoorW.PrintWords Go.Proofs.YthknfclhkmehgaaDoorW.PrintLast Go.Proofs.YthknfclhkmehgaaDoorW.PrintMore
set_option linter.unusedVariables false
set_option linter.unusedSimpArgs false

theorem extract_list8 (s : ByteArray) (n : Nat) : (s.extract 0 n).data.toList = s.data.toList.take n := by
  rw [ByteArray.data_extract]
  simp
theorem bt_at8 (s : ByteArray) (i : Nat) (hi : i < s.size) : bt s (i : Int) = ((s[i]).toNat : Int) := by
  unfold bt
  rw [Int.toNat_natCast, dif_pos hi]
theorem digits8_loop (s : ByteArray) (hs : s.size < 9223372036854775807) : ∀ (m i : Nat), s.size - i = m → i ≤ s.size →
    Ev (fun k => crossbarref08_Digits.l0 k s (s.size : Int) (i : Int)) ((s.data.toList.drop i).all fun b => decide (48 ≤ b.toNat) && decide (b.toNat ≤ 57)) := by
  intro m
  induction m with
  | zero =>
    intro i hm hi
    obtain rfl : i = s.size := by omega
    rw [List.drop_eq_nil_of_le (by rw [size_len]; omega)]
    refine Ev.step (fun k => crossbarref08_Digits.l0.eq_2 _ _ _ k) ?_
    exact Ev.if_neg (by omega) (Ev.now _)
  | succ m ih =>
    intro i hm hi
    have hil : i < s.size := by omega
    rw [strByte s i hil, List.all_cons]
    refine Ev.step (fun k => crossbarref08_Digits.l0.eq_2 _ _ _ k) ?_
    refine Ev.if_pos (by omega) ?_
    refine Ev.if_pos (by omega) ?_
    refine Ev.if_pos (by omega) ?_
    rw [bt_at8 s i hil]
    by_cases h1 : (s[i].toNat : Int) < 48
    · rw [decide_eq_false (by omega : ¬ 48 ≤ s[i].toNat), Bool.false_and, Bool.false_and]
      exact Ev.if_pos h1 (Ev.now _)
    refine Ev.if_neg h1 ?_
    rw [decide_eq_true (by omega : 48 ≤ s[i].toNat), Bool.true_and]
    by_cases h2 : (s[i].toNat : Int) > 57
    · rw [decide_eq_false (by omega : ¬ s[i].toNat ≤ 57), Bool.false_and]
      exact Ev.if_pos h2 (Ev.now _)
    refine Ev.if_neg h2 ?_
    rw [decide_eq_true (by omega : s[i].toNat ≤ 57), Bool.true_and, w64s (by omega)]
    exact ih (i + 1) (by omega) (by omega)
theorem Digits8 (s : ByteArray) (hs : s.size < 9223372036854775807) : Ev (fun k => crossbarref08_Digits.f k s) (digB s) := by
  have := digits8_loop s hs s.size 0 (by omega) (by omega)
  exact this

theorem Begins8 (s p : ByteArray) : crossbarref08_Begins.f s p = some (begB s p) := by
  unfold crossbarref08_Begins.f
  by_cases h : (p.size : Int) ≤ (s.size : Int)
  · rw [_root_.if_pos h, _root_.if_pos (by omega), Int.toNat_natCast]
    congr 1
    rw [bytes_list, bytes_list, extract_list8, Bool.eq_iff_iff, beq_iff_eq, begB_iff, List.prefix_iff_eq_take, size_len]
    exact eq_comm
  · rw [_root_.if_neg h]
    congr 1
    symm
    rw [Bool.eq_false_iff]
    intro hb
    have := (begB_take hb).2
    rw [size_len] at this
    omega

theorem chk_inner (l : Rl) (i : Nat) (hi : i < l.length) (h64 : l.length ≤ 64) (p : ByteArray) (q1 q2 q3 : Int) {res : Int} (hnext : Ev (fun k => crossbarref08_Check.l0 k l l (l.length : Int) (wrap64 ((i : Int) + 1))) res) : ∀ (m j : Nat), i - j = m → j ≤ i →
    Ev (fun k => crossbarref08_Check.l1 k l l (l.length : Int) (i : Int) (l.take i) ((l.take i).length : Int) (j : Int) p q1 q2 q3) (if ((l.take i).drop j).any (fun x => x.f0.data.toList == p.data.toList) = true then 80 else res) := by
  have hlen : (l.take i).length = i := by rw [List.length_take]; omega
  intro m
  induction m with
  | zero =>
    intro j hm hj
    obtain rfl : j = i := by omega
    rw [List.drop_eq_nil_of_le (by omega)]
    refine Ev.step (fun k => crossbarref08_Check.l1.eq_2 _ _ _ _ _ _ _ _ _ _ _ k) ?_
    rw [hlen]
    exact Ev.if_neg (by omega) hnext
  | succ m ih =>
    intro j hm hj
    have hjl : j < (l.take i).length := by omega
    rw [List.drop_eq_getElem_cons hjl, List.any_cons]
    refine Ev.step (fun k => crossbarref08_Check.l1.eq_2 _ _ _ _ _ _ _ _ _ _ _ k) ?_
    refine Ev.if_pos (by omega) ?_
    refine Ev.if_pos (by omega) ?_
    refine Ev.if_pos (by omega) ?_
    rw [rd_rule _ j hjl, bytes_list, bytes_list]
    by_cases he : ((l.take i)[j]).f0.data.toList = p.data.toList
    · rw [show (((l.take i)[j]).f0.data.toList == p.data.toList) = true from beq_iff_eq.2 he, Bool.true_or, _root_.if_pos rfl]
      exact Ev.if_pos he (Ev.now _)
    · rw [show (((l.take i)[j]).f0.data.toList == p.data.toList) = false from beq_eq_false_iff_ne.2 he, Bool.false_or]
      refine Ev.if_neg he ?_
      rw [w64s (by omega)]
      exact ih (j + 1) (by omega) (by omega)

theorem chk_loop (l : Rl) (h64 : l.length ≤ 64) : ∀ (m i : Nat), l.length - i = m → i ≤ l.length → ∀ seen : List ByteArray, (∀ s, hasS seen s = (l.take i).any (fun x => x.f0.data.toList == s.data.toList)) →
    Ev (fun k => crossbarref08_Check.l0 k l l (l.length : Int) (i : Int)) (chkL (l.drop i) seen) := by
  intro m
  induction m with
  | zero =>
    intro i hm hi seen hseen
    obtain rfl : i = l.length := by omega
    rw [List.drop_length]
    refine Ev.step (fun k => crossbarref08_Check.l0.eq_2 _ _ _ _ k) ?_
    exact Ev.if_neg (by omega) (Ev.now _)
  | succ m ih =>
    intro i hm hi seen hseen
    have hil : i < l.length := by omega
    rw [List.drop_eq_getElem_cons hil, chkL]
    refine Ev.step (fun k => crossbarref08_Check.l0.eq_2 _ _ _ _ k) ?_
    refine Ev.if_pos (by omega) ?_
    refine Ev.if_pos (by omega) ?_
    refine Ev.if_pos (by omega) ?_
    rw [rd_rule l i hil]
    obtain ⟨r, hr⟩ : ∃ r, r = l[i] := ⟨_, rfl⟩
    rw [← hr]
    have hbad : Ev (fun k => crossbarref08_Check.j1 k l (i : Int) l (l.length : Int) (i : Int) true r.f0 r.f1 r.f2 r.f3) 80 := by
      refine Ev.step (fun k => crossbarref08_Check.j1.eq_2 _ _ _ _ _ _ _ _ _ _ k) ?_
      exact Ev.if_pos rfl (Ev.now _)
    cases hb : badR r with
    | true =>
      rw [_root_.if_pos (.inl rfl)]
      unfold badR at hb
      by_cases c1 : (r.f0.size : Int) < 1
      · exact Ev.if_pos c1 hbad
      refine Ev.if_neg c1 ?_
      by_cases c2 : (r.f0.size : Int) > 15
      · exact Ev.if_pos c2 hbad
      refine Ev.if_neg c2 ?_
      refine Ev.bind (Digits8 r.f0 (by omega)) ?_
      cases c3 : digB r.f0 with
      | false => exact Ev.if_neg (by decide) hbad
      | true =>
        refine Ev.if_pos rfl ?_
        by_cases c4 : r.f3 < 1
        · exact Ev.if_pos c4 hbad
        refine Ev.if_neg c4 ?_
        by_cases c5 : r.f3 > 4
        · exact Ev.if_pos c5 hbad
        refine Ev.if_neg c5 ?_
        by_cases c6 : r.f1 < (r.f0.size : Int)
        · exact Ev.if_pos c6 hbad
        refine Ev.if_neg c6 ?_
        by_cases c7 : r.f2 < r.f1
        · exact Ev.if_pos c7 hbad
        refine Ev.if_neg c7 ?_
        have c8 : r.f2 > 20 := by
          rw [decide_eq_false c1, decide_eq_false (show ¬ (15 < (r.f0.size : Int)) by omega), c3, decide_eq_false c4, decide_eq_false (show ¬ (4 < r.f3) by omega), decide_eq_false c6, decide_eq_false c7] at hb
          simpa using hb
        rw [decide_eq_true c8]
        exact hbad
    | false =>
      obtain ⟨ro⟩ : Nonempty (RuleOk r) := ⟨badR_iff.1 hb⟩
      have h1 := ro.lo
      have h2 := ro.hi
      have h3 := (digB_iff _).2 ro.dig
      have h4 := ro.k1
      have h5 := ro.k4
      have h6 := ro.mn
      have h7 := ro.mx
      have h8 := ro.m20
      refine Ev.if_neg (by omega) ?_
      refine Ev.if_neg (by omega) ?_
      refine Ev.bind (Digits8 r.f0 (by omega)) ?_
      refine Ev.if_pos h3 ?_
      refine Ev.if_neg (by omega) ?_
      refine Ev.if_neg (by omega) ?_
      refine Ev.if_neg (by omega) ?_
      refine Ev.if_neg (by omega) ?_
      rw [decide_eq_false (show ¬ (r.f2 > 20) by omega)]
      refine Ev.step (fun k => crossbarref08_Check.j1.eq_2 _ _ _ _ _ _ _ _ _ _ k) ?_
      refine Ev.if_neg (by decide) ?_
      refine Ev.if_pos (by omega) ?_
      refine Ev.if_pos (by omega) ?_
      refine Ev.bind (Ev.now _) ?_
      rw [Int.toNat_natCast]
      have hnext : Ev (fun k => crossbarref08_Check.l0 k l l (l.length : Int) (wrap64 ((i : Int) + 1))) (chkL (l.drop (i + 1)) (r.f0 :: seen)) := by
        rw [w64s (by omega)]
        refine ih (i + 1) (by omega) (by omega) _ (fun s => ?_)
        have h9 := hseen s
        unfold hasS at h9 ⊢
        rw [List.any_cons, h9, List.take_succ_eq_append_getElem hil, List.any_append, ← hr, List.any_cons, List.any_nil, Bool.or_false, Bool.or_comm]
      have hin := chk_inner l i hil h64 r.f0 r.f1 r.f2 r.f3 hnext i 0 (by omega) (by omega)
      rw [List.drop_zero, ← hseen r.f0] at hin
      cases hq : hasS seen r.f0 with
      | true =>
        rw [hq] at hin
        rw [_root_.if_pos (.inr rfl)]
        exact hin
      | false =>
        rw [hq] at hin
        rw [_root_.if_neg (by simp)]
        exact hin
theorem Check8 (l : Rl) : Ev (fun k => crossbarref08_Check.f k l) (chkR l) := by
  unfold crossbarref08_Check.f chkR
  by_cases h : (l.length : Int) > 64
  · rw [_root_.if_pos h]
    exact Ev.if_pos h (Ev.now _)
  · rw [_root_.if_neg h]
    refine Ev.if_neg h ?_
    have := chk_loop l (by omega) l.length 0 (by omega) (by omega) [] (fun s => rfl)
    rw [List.drop_zero] at this
    exact this

theorem app_loop (l : Rl) (s : ByteArray) (h64 : l.length ≤ 64) : ∀ (m i : Nat), l.length - i = m → i ≤ l.length →
    Ev (fun k => crossbarref08_Applicable.l0 k l s (bestI l s i) l (l.length : Int) (i : Int)) (bestR l s) := by
  intro m
  induction m with
  | zero =>
    intro i hm hi
    obtain rfl : i = l.length := by omega
    refine Ev.step (fun k => crossbarref08_Applicable.l0.eq_2 _ _ _ _ _ _ k) ?_
    exact Ev.if_neg (by omega) (Ev.now _)
  | succ m ih =>
    intro i hm hi
    have hil : i < l.length := by omega
    have hnext := ih (i + 1) (by omega) (by omega)
    rw [show bestI l s (i + 1) = if begB s (rdR l (i : Int)).f0 && (decide (bestI l s i < 0) || decide ((rdR l (bestI l s i)).f0.size < (rdR l (i : Int)).f0.size)) then (i : Int) else bestI l s i from rfl] at hnext
    have hbi := bestI_is l s i
    refine Ev.step (fun k => crossbarref08_Applicable.l0.eq_2 _ _ _ _ _ _ k) ?_
    refine Ev.if_pos (by omega) ?_
    refine Ev.if_pos (by omega) ?_
    refine Ev.if_pos (by omega) ?_
    rw [Begins8]
    refine Ev.bind (Ev.now _) ?_
    obtain ⟨b, hbe⟩ : ∃ b, bestI l s i = b := ⟨_, rfl⟩
    rw [hbe] at hbi hnext ⊢
    cases hc : begB s (rdR l (i : Int)).f0 with
    | false =>
      rw [hc, Bool.false_and, _root_.if_neg (by decide)] at hnext
      refine Ev.if_neg (by decide) ?_
      rw [w64s (by omega)]
      exact hnext
    | true =>
      refine Ev.if_pos rfl ?_
      rw [hc, Bool.true_and] at hnext
      cases hbi with
      | none h =>
        rw [decide_eq_true (show (-1 : Int) < 0 by decide), Bool.true_or, _root_.if_pos rfl] at hnext
        refine Ev.if_pos (by decide) ?_
        rw [w64s (by omega)]
        exact hnext
      | some j hj hb h =>
        rw [decide_eq_false (show ¬ (j : Int) < 0 by omega), Bool.false_or] at hnext
        refine Ev.if_neg (by omega) ?_
        refine Ev.if_pos (by omega) ?_
        refine Ev.if_pos (by omega) ?_
        by_cases hlt : (rdR l (j : Int)).f0.size < (rdR l (i : Int)).f0.size
        · rw [decide_eq_true hlt, _root_.if_pos rfl] at hnext
          refine Ev.if_pos (Int.ofNat_lt.2 hlt) ?_
          rw [w64s (by omega)]
          exact hnext
        · rw [decide_eq_false hlt, _root_.if_neg (by decide)] at hnext
          refine Ev.if_neg (fun hh => hlt (Int.ofNat_lt.1 hh)) ?_
          rw [w64s (by omega)]
          exact hnext
theorem Applicable8 (l : Rl) (s : ByteArray) (h64 : l.length ≤ 64) : Ev (fun k => crossbarref08_Applicable.f k l s) (bestR l s) := app_loop l s h64 l.length 0 (by omega) (by omega)

theorem ext8_loop (l : Rl) (s : ByteArray) (h64 : l.length ≤ 64) : ∀ (m i : Nat), l.length - i = m → i ≤ l.length →
    Ev (fun k => crossbarref08_extensible.l0 k s l (l.length : Int) (i : Int)) ((l.drop i).any fun r => begB r.f0 s && decide (s.size < r.f0.size)) := by
  intro m
  induction m with
  | zero =>
    intro i hm hi
    obtain rfl : i = l.length := by omega
    rw [List.drop_length]
    refine Ev.step (fun k => crossbarref08_extensible.l0.eq_2 _ _ _ _ k) ?_
    exact Ev.if_neg (by omega) (Ev.now _)
  | succ m ih =>
    intro i hm hi
    have hil : i < l.length := by omega
    have hnext := ih (i + 1) (by omega) (by omega)
    rw [List.drop_eq_getElem_cons hil, List.any_cons]
    refine Ev.step (fun k => crossbarref08_extensible.l0.eq_2 _ _ _ _ k) ?_
    refine Ev.if_pos (by omega) ?_
    refine Ev.if_pos (by omega) ?_
    refine Ev.if_pos (by omega) ?_
    rw [rd_rule l i hil, Begins8]
    refine Ev.bind (Ev.now _) ?_
    cases hc : begB (l[i]).f0 s with
    | false =>
      rw [Bool.false_and, Bool.false_or]
      refine Ev.if_neg (by decide) ?_
      rw [w64s (by omega)]
      exact hnext
    | true =>
      rw [Bool.true_and]
      refine Ev.if_pos rfl ?_
      by_cases hlt : s.size < (l[i]).f0.size
      · rw [decide_eq_true hlt, Bool.true_or]
        exact Ev.if_pos (Int.ofNat_lt.2 hlt) (Ev.now _)
      · rw [decide_eq_false hlt, Bool.false_or]
        refine Ev.if_neg (fun hh => hlt (Int.ofNat_lt.1 hh)) ?_
        rw [w64s (by omega)]
        exact hnext
theorem extensible8 (l : Rl) (s : ByteArray) (h64 : l.length ≤ 64) : Ev (fun k => crossbarref08_extensible.f k l s) (extR l s) := by
  have := ext8_loop l s h64 l.length 0 (by omega) (by omega)
  rw [List.drop_zero] at this
  exact this

theorem state_fin {l : Rl} (h : chkR l = 0) (s : ByteArray) : Ev (fun k => crossbarref08_state.f k l s true (bestR l s)) (blocI l s).1 := by
  obtain ⟨hl, h64⟩ := chkR_zero h
  unfold crossbarref08_state.f blocI
  refine Ev.if_pos rfl ?_
  refine Ev.step (fun k => crossbarref08_state.j0.eq_2 _ _ _ _ _ k) ?_
  refine Ev.if_neg (by decide) ?_
  rcases bestR_cases l s with hb | ⟨j, hj, hb⟩
  · rw [hb, _root_.if_pos (by decide)]
    refine Ev.if_pos (by decide) ?_
    refine Ev.step (fun k => crossbarref08_state.j1.eq_2 _ _ _ _ _ k) ?_
    exact Ev.if_pos rfl (Ev.now _)
  · rw [hb, _root_.if_neg (by omega)]
    refine Ev.if_neg (by omega) ?_
    refine Ev.if_pos (by omega) ?_
    refine Ev.if_pos (by omega) ?_
    have ro := hl.each _ (List.getElem_mem hj)
    show Ev _ (stB (rd_T35 l (j : Int)) s.size)
    rw [rd_rule l j hj]
    obtain ⟨r, hr⟩ : ∃ r, r = l[j] := ⟨_, rfl⟩
    rw [← hr] at ro ⊢
    have k1 := ro.k1
    have k4 := ro.k4
    unfold stB
    by_cases c4 : r.f3 = 4
    · rw [_root_.if_neg (by omega), show (r.f3 == 4) = true from beq_iff_eq.2 c4]
      refine Ev.step (fun k => crossbarref08_state.j1.eq_2 _ _ _ _ _ k) ?_
      exact Ev.if_pos rfl (Ev.now _)
    · rw [show (r.f3 == 4) = false from beq_eq_false_iff_ne.2 c4]
      refine Ev.step (fun k => crossbarref08_state.j1.eq_2 _ _ _ _ _ k) ?_
      refine Ev.if_neg (by decide) ?_
      refine Ev.if_pos (by omega) ?_
      refine Ev.if_pos (by omega) ?_
      rw [rd_rule l j hj, ← hr]
      refine Ev.if_pos rfl ?_
      by_cases g1 : (s.size : Int) ≥ r.f1
      · refine Ev.if_pos g1 ?_
        by_cases g2 : (s.size : Int) ≤ r.f2
        · rw [_root_.if_pos (by omega)]
          refine Ev.if_pos g2 ?_
          refine Ev.step (fun k => crossbarref08_state.j2.eq_2 _ _ _ _ _ _ _ k) ?_
          exact Ev.if_pos rfl (Ev.now _)
        · rw [_root_.if_neg (by omega)]
          refine Ev.if_neg g2 ?_
          refine Ev.step (fun k => crossbarref08_state.j2.eq_2 _ _ _ _ _ _ _ k) ?_
          refine Ev.if_neg (by decide) ?_
          exact Ev.if_pos rfl (Ev.now _)
      · rw [_root_.if_neg (by omega)]
        refine Ev.if_neg g1 ?_
        refine Ev.step (fun k => crossbarref08_state.j2.eq_2 _ _ _ _ _ _ _ k) ?_
        refine Ev.if_neg (by decide) ?_
        exact Ev.if_pos rfl (Ev.now _)

theorem state_run {l : Rl} (h : chkR l = 0) (s : ByteArray) : Ev (fun k => crossbarref08_state.f k l s false (bestR l s)) (overI l s).1 := by
  obtain ⟨hl, h64⟩ := chkR_zero h
  unfold crossbarref08_state.f overI
  refine Ev.if_neg (by decide) ?_
  refine Ev.bind (extensible8 l s h64) ?_
  have more : Ev (fun k => crossbarref08_state.j0 k l false (bestR l s) (s.size : Int) true) 1 := by
    refine Ev.step (fun k => crossbarref08_state.j0.eq_2 _ _ _ _ _ k) ?_
    exact Ev.if_pos rfl (Ev.now _)
  cases hx : extR l s with
  | true =>
    rw [_root_.if_pos (.inl rfl)]
    exact Ev.if_pos rfl more
  | false =>
    refine Ev.if_neg (by decide) ?_
    rcases bestR_cases l s with hb | ⟨j, hj, hb⟩
    · rw [hb] at more ⊢
      refine Ev.if_pos (by decide) ?_
      by_cases h0 : s.size = 0
      · rw [_root_.if_pos (.inr ⟨by decide, h0⟩), show ((s.size : Int) == 0) = true from beq_iff_eq.2 (by omega)]
        exact more
      · rw [_root_.if_neg (by simp [h0]), _root_.if_pos (by decide), show ((s.size : Int) == 0) = false from beq_eq_false_iff_ne.2 (by omega)]
        refine Ev.step (fun k => crossbarref08_state.j0.eq_2 _ _ _ _ _ k) ?_
        refine Ev.if_neg (by decide) ?_
        refine Ev.if_pos (by decide) ?_
        refine Ev.step (fun k => crossbarref08_state.j1.eq_2 _ _ _ _ _ k) ?_
        exact Ev.if_pos rfl (Ev.now _)
    · rw [hb, _root_.if_neg (by simp; omega), _root_.if_neg (by omega)]
      refine Ev.if_neg (by omega) ?_
      refine Ev.step (fun k => crossbarref08_state.j0.eq_2 _ _ _ _ _ k) ?_
      refine Ev.if_neg (by decide) ?_
      refine Ev.if_neg (by omega) ?_
      refine Ev.if_pos (by omega) ?_
      refine Ev.if_pos (by omega) ?_
      show Ev _ (stO (rd_T35 l (j : Int)) s.size)
      rw [rd_rule l j hj]
      obtain ⟨r, hr⟩ : ∃ r, r = l[j] := ⟨_, rfl⟩
      rw [← hr]
      unfold stO
      by_cases c4 : r.f3 = 4
      · rw [_root_.if_pos c4, show (r.f3 == 4) = true from beq_iff_eq.2 c4]
        refine Ev.step (fun k => crossbarref08_state.j1.eq_2 _ _ _ _ _ k) ?_
        exact Ev.if_pos rfl (Ev.now _)
      · rw [_root_.if_neg c4, show (r.f3 == 4) = false from beq_eq_false_iff_ne.2 c4]
        refine Ev.step (fun k => crossbarref08_state.j1.eq_2 _ _ _ _ _ k) ?_
        refine Ev.if_neg (by decide) ?_
        refine Ev.if_pos (by omega) ?_
        refine Ev.if_pos (by omega) ?_
        rw [rd_rule l j hj, ← hr]
        refine Ev.if_neg (by decide) ?_
        by_cases ge : (s.size : Int) = r.f2
        · rw [_root_.if_neg (by omega), _root_.if_pos ge]
          refine Ev.step (fun k => crossbarref08_state.j2.eq_2 _ _ _ _ _ _ _ k) ?_
          exact Ev.if_pos (beq_iff_eq.2 ge) (Ev.now _)
        · rw [show ((s.size : Int) == r.f2) = false from beq_eq_false_iff_ne.2 ge]
          by_cases gl : (s.size : Int) < r.f2
          · rw [_root_.if_pos gl]
            refine Ev.step (fun k => crossbarref08_state.j2.eq_2 _ _ _ _ _ _ _ k) ?_
            refine Ev.if_neg (by decide) ?_
            refine Ev.if_neg (by decide) ?_
            exact Ev.if_pos gl (Ev.now _)
          · rw [_root_.if_neg gl, _root_.if_neg ge]
            refine Ev.step (fun k => crossbarref08_state.j2.eq_2 _ _ _ _ _ _ _ k) ?_
            refine Ev.if_neg (by decide) ?_
            refine Ev.if_neg (by decide) ?_
            exact Ev.if_neg gl (Ev.now _)

theorem Analyze8 (l : Rl) (s : ByteArray) (fin : Bool) (hs : s.size < 9223372036854775807) : Ev (fun k => crossbarref08_Analyze.f k l s fin) (anaI l s fin) := by
  unfold crossbarref08_Analyze.f anaI
  refine Ev.bind (Check8 l) ?_
  by_cases h : chkR l = 0
  · obtain ⟨hl, h64⟩ := chkR_zero h
    rw [_root_.if_neg (fun hh => hh h)]
    refine Ev.if_pos h ?_
    refine Ev.bind (Digits8 s hs) ?_
    cases hd : digB s with
    | false =>
      rw [_root_.if_pos rfl]
      exact Ev.if_neg (by decide) (Ev.now _)
    | true =>
      rw [_root_.if_neg (by decide)]
      refine Ev.if_pos rfl ?_
      refine Ev.bind (Applicable8 l s h64) ?_
      cases fin with
      | true =>
        rw [_root_.if_pos rfl, blocI_two]
        exact Ev.bind (state_fin h s) (Ev.now _)
      | false =>
        rw [_root_.if_neg (by decide), overI_two]
        exact Ev.bind (state_run h s) (Ev.now _)
  · rw [_root_.if_pos h]
    exact Ev.if_neg h (Ev.now _)

end Go.Proofs.YthknfclhkmehgaaDoor.Fn
