/-
  PLAIN LAW: TrieEntriesSorted's function answers true.
-/
import Derived.Test.YtmendieiikmbhaaDoorPBuilt
import Derived.Test.YtmendieiikmbhaaDoorFn23
namespace Go.Proofs.YtmendieiikmbhaaDoor.Fn
open Go.RowKit Go.Proofs.YtmendieiikmbhaaDoorW.PrintWords Go.Proofs.YtmendieiikmbhaaDoorW.PrintLast Go.Proofs.YtmendieiikmbhaaDoorW.PrintMore
set_option linter.unusedVariables false
set_option linter.unusedSimpArgs false

theorem less_eq : ∀ (x y : Tr.Str), Op.bytesLess x y = Tr.lt x y
  | [], [] => rfl
  | [], _ :: _ => rfl
  | _ :: _, [] => rfl
  | a :: x, b :: y => by
    have ih := less_eq x y
    unfold Op.bytesLess Tr.lt
    rw [ih]

theorem nodup_le {α : Type} [DecidableEq α] : ∀ (a b : List α), a.Nodup → (∀ x ∈ a, x ∈ b) → a.length ≤ b.length
  | [], b, _, _ => Nat.zero_le _
  | x :: a, b, h, hs => by
    have h' := List.nodup_cons.1 h
    have hx : x ∈ b := hs x (List.mem_cons_self ..)
    have := nodup_le a (b.erase x) h'.2 (fun y hy => (List.mem_erase_of_ne (fun e => h'.1 (by rw [← e]; exact hy))).2 (hs y (List.mem_cons_of_mem _ hy)))
    rw [List.length_erase_of_mem hx] at this
    have := List.length_pos_of_mem hx
    rw [List.length_cons]
    omega

theorem kept_len {t : Tl} {kept : El} (h : KB t kept) : (Tr.entries (tt t)).length = kept.length := by
  have hm : (kept.map fun e => (fst e, e.f1)).length = kept.length := List.length_map ..
  have n1 : (kept.map fun e => (fst e, e.f1)).Nodup := by
    rw [List.Nodup, List.pairwise_map]
    exact h.nodup.imp fun hab e => hab (congrArg Prod.fst e)
  have n2 : (Tr.entries (tt t)).Nodup := by
    refine (Tr.sorted_entries (tt t)).imp ?_
    intro a b hab e
    subst e
    rw [Tr.lt_irrefl] at hab
    cases hab
  refine Nat.le_antisymm ?_ ?_
  · rw [← hm]
    refine nodup_le _ _ n2 fun e he => ?_
    obtain ⟨a, b, c⟩ := (Tr.mem_entries h.ok.1 e).1 he
    obtain ⟨x, hx, hxe⟩ := h.full e.1 a (by rw [b]; exact c)
    refine List.mem_map.2 ⟨x, hx, Prod.ext hxe ?_⟩
    have := (h.sound x hx).2.1
    rw [hxe, b] at this
    exact this.symm
  · rw [← hm]
    refine nodup_le _ _ n1 fun e he => ?_
    obtain ⟨x, hx, rfl⟩ := List.mem_map.1 he
    obtain ⟨a, b, c⟩ := h.sound x hx
    exact (Tr.mem_entries h.ok.1 _).2 ⟨a, b, c⟩

theorem woV_len1 (p : ByteArray) : ∀ (kept : El), kept.Pairwise (fun a b => fst a ≠ fst b) → (∃ e ∈ kept, fst e = p.data.toList) → (woV kept p).length + 1 = kept.length
  | [], _, h => by obtain ⟨e, he, _⟩ := h; cases he
  | a :: m, hn, h => by
    have hn' := List.pairwise_cons.1 hn
    have hcons : woV (a :: m) p = if fst a = p.data.toList then woV m p else a :: woV m p := by
      unfold woV
      rw [List.filter_cons]
      by_cases hh : fst a = p.data.toList
      · rw [if_pos hh, if_neg (by
          have : (a.f0.data.toList == p.data.toList) = true := beq_iff_eq.2 hh
          simp [this])]
      · rw [if_neg hh, if_pos (by rw [show (a.f0.data.toList == p.data.toList) = false from beq_eq_false_iff_ne.2 hh]; rfl)]
    rw [hcons]
    by_cases hh : fst a = p.data.toList
    · rw [if_pos hh]
      have : woV m p = m := by
        unfold woV
        refine List.filter_eq_self.2 fun b hb => ?_
        have hne := hn'.1 b hb
        rw [hh] at hne
        rw [show (b.f0.data.toList == p.data.toList) = false from beq_eq_false_iff_ne.2 (fun e => hne (Eq.symm e))]
        rfl
      rw [this, List.length_cons]
    · rw [if_neg hh, List.length_cons, List.length_cons]
      obtain ⟨e, he, hep⟩ := h
      rcases List.mem_cons.1 he with rfl | he
      · exact absurd hep hh
      · have := woV_len1 p m hn'.2 ⟨e, he, hep⟩
        omega

theorem longV_entry {t : Tl} (ok : Ok t) {e : Tr.Str × Int} (he : e ∈ Tr.entries (tt t)) : longV t (toS e).f0 = (e.2, ((toS e).f0.size : Int), true) := by
  obtain ⟨a, b, c⟩ := (Tr.mem_entries ok.1 e).1 he
  have hl : (toS e).f0.data.toList = e.1 := rfl
  have hs := size_len (toS e).f0
  rw [hl] at hs
  have hb : Tr.Best (tt t) (toS e).f0.data.toList e.2 (toS e).f0.size := ⟨by rw [hl]; omega, by rw [hl, List.take_of_length_le (by omega)]; exact b, c, fun m hm hle => by rw [hl] at hle; omega⟩
  rcases longV_of (s := (toS e).f0) ok a with ⟨v, n, b2, e2⟩ | ⟨b2, _⟩
  · obtain ⟨rfl, rfl⟩ := hb.unique b2
    exact e2
  · exact (hb.not_none b2).elim

theorem sorted_loop (t : Tl) (kept : El) (h : KB t kept) (h60 : kept.length ≤ 60) : ∀ (m i : Nat), (Tr.entries (tt t)).length - i = m → i ≤ (Tr.entries (tt t)).length →
    Ev (fun k => crossbarlaw07_TrieEntriesSorted.l0 k kept ((Tr.entries (tt t)).map toS) (i : Int) t) true := by
  have hkl := kept_len h
  have hml : ((Tr.entries (tt t)).map toS).length = (Tr.entries (tt t)).length := List.length_map ..
  have hrd : ∀ (j : Nat) (hj : j < (Tr.entries (tt t)).length), rd_T39 ((Tr.entries (tt t)).map toS) (j : Int) = toS (Tr.entries (tt t))[j] := by
    intro j hj
    unfold rd_T39
    rw [Int.toNat_natCast]
    simp only [List.getD_eq_getElem?_getD, List.getElem?_map, List.getElem?_eq_getElem hj, Option.map_some, Option.getD_some]
  intro m
  induction m with
  | zero =>
    intro i hm hi
    refine Ev.step (fun k => crossbarlaw07_TrieEntriesSorted.l0.eq_2 _ _ _ _ k) ?_
    exact Ev.if_neg (by omega) (Ev.now _)
  | succ m ih =>
    intro i hm hi
    have hil : i < (Tr.entries (tt t)).length := by omega
    have he := List.getElem_mem hil
    obtain ⟨a, b, c⟩ := (Tr.mem_entries h.ok.1 _).1 he
    have hlen15 : (toS (Tr.entries (tt t))[i]).f0.size ≤ 15 := by
      rw [← size_len]
      show (Tr.entries (tt t))[i].1.length ≤ 15
      unfold Tr.look at b
      cases hg : Tr.go (tt t) 0 (Tr.entries (tt t))[i].1 with
      | none => rw [hg] at b; exact absurd b.symm c
      | some j => exact Tr.go_len h.ok.1 hg
    have hw := woV_len1 (toS (Tr.entries (tt t))[i]).f0 kept h.nodup (h.full (Tr.entries (tt t))[i].1 a (by rw [b]; exact c))
    have fin : Ev (fun n => (crossbarlaw07_without.f n kept (toS (Tr.entries (tt t))[i]).f0).bind fun t413 => (if (t413.length : Int) = (wrap64 ((kept.length : Int) - 1)) then (crossbarlaw07_TrieEntriesSorted.l0 n kept ((Tr.entries (tt t)).map toS) (((i + 1 : Nat)) : Int) t) else (some false))) true := by
      refine Ev.bind (without_ev kept _ (by omega)) ?_
      refine Ev.if_pos (by rw [w64 (by omega) (by omega)]; omega) ?_
      exact ih (i + 1) (by omega) (by omega)
    refine Ev.step (fun k => crossbarlaw07_TrieEntriesSorted.l0.eq_2 _ _ _ _ k) ?_
    refine Ev.if_pos (by omega) ?_
    refine Ev.if_pos (by omega) ?_
    rw [hrd i hil, w64s (by omega)]
    refine Ev.bind (Long_ev t _ (by omega)) ?_
    rw [longV_entry h.ok he]
    rcases Nat.eq_zero_or_pos i with hz | hz
    · refine Ev.if_neg (by omega) ?_
      refine Ev.if_pos rfl ?_
      refine Ev.if_pos rfl ?_
      refine Ev.if_pos rfl ?_
      exact fin
    · refine Ev.if_pos (by omega) ?_
      have hw1 : wrap64 ((i : Int) - 1) = ((i - 1 : Nat) : Int) := by
        rw [w64 (by omega) (by omega)]
        omega
      rw [hw1, hrd (i - 1) (by omega)]
      refine Ev.if_pos (by omega) ?_
      refine Ev.if_pos (by omega) ?_
      refine Ev.if_pos ?_ ?_
      · rw [bytes_list, bytes_list, less_eq]
        exact List.pairwise_iff_getElem.1 (Tr.sorted_entries (tt t)) (i - 1) i (by omega) hil (by omega)
      · refine Ev.if_pos rfl ?_
        refine Ev.if_pos rfl ?_
        refine Ev.if_pos rfl ?_
        exact fin

theorem sorted_pure (l : Ul) : ∃ k, crossbarlaw07_TrieEntriesSorted.f k l = some true := by
  refine Ev.rounds (g := fun k => crossbarlaw07_TrieEntriesSorted.f k l) ?_
  unfold crossbarlaw07_TrieEntriesSorted.f
  refine Ev.bind (a := true) (Ev.done rfl) ?_
  refine Ev.if_pos rfl ?_
  obtain ⟨b, hb, hbb⟩ := short_ev l
  refine Ev.bind hb ?_
  cases b with
  | false => exact Ev.if_neg (by decide) (Ev.now _)
  | true =>
    refine Ev.if_pos rfl ?_
    obtain ⟨u, kp, e1, e2, e3⟩ := built_ev l (hbb rfl)
    refine Ev.bind e1 ?_
    refine Ev.bind (Ent_ev u) ?_
    rw [entV_ok e2.ok]
    refine Ev.if_pos (by rw [List.length_map, kept_len e2]) ?_
    refine Ev.bind (Check_ok e2.ok) ?_
    refine Ev.step (fun k => crossbarlaw07_TrieEntriesSorted.j0.eq_2 _ _ _ _ k) ?_
    refine Ev.if_neg (by decide) ?_
    exact sorted_loop u kp e2 e3 _ 0 rfl (Nat.zero_le _)

end Go.Proofs.YtmendieiikmbhaaDoor.Fn
