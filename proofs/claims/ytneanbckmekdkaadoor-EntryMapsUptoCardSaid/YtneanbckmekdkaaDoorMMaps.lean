import Derived.Test.YtneanbckmekdkaaDoorECPl
import Derived.Test.YtneanbckmekdkaaDoorMOrd
section
/- Plain: entries in order; one more, one less, another number. -/
namespace Go.Proofs.YtneanbckmekdkaaDoor.EN
open Go Go.RowKit Go.Proofs.YtneanbckmekdkaaDoorX Go.Proofs.YtneanbckmekdkaaDoor.NM Go.Proofs.YtneanbckmekdkaaDoorW.PrintWords Go.Proofs.YtneanbckmekdkaaDoor.PEntryForms
set_option linter.unusedVariables false
set_option linter.unusedSimpArgs false
/-- One name is ahead of another. -/
def Lt (x y : S42) : Prop := NM.ahead x.f1.data.toList y.f1.data.toList < 0
def Good (x : S42) : Prop := okIno x.f0 = true ∧ valid x.f1.data.toList = true
theorem Lt.trans {x y z : S42} (h1 : Lt x y) (h2 : Lt y z) : Lt x z := by
  unfold Lt at *
  have h3 := NM.ahead_trans _ _ _ (Int.le_of_lt h1) (Int.le_of_lt h2)
  rcases Int.lt_or_eq_of_le h3 with h | h
  · exact h
  · rw [NM.ahead_zero] at h
    rw [← h] at h2
    have := NM.ahead_neg x.f1.data.toList y.f1.data.toList
    omega
def MayQ (l : List S42) : Prop := l.length ≤ 64 ∧ (∀ x ∈ l, Good x) ∧ l.Pairwise Lt
theorem okAt_get {l : List S42} {i : Nat} (hi : i < l.length) : okAt l i = (okIno l[i].f0 && valid l[i].f1.data.toList && (decide (i = 0) || decide (NM.ahead (nameAt l (i - 1)).data.toList l[i].f1.data.toList < 0))) := okAt_eq (at_get hi).1 (at_get hi).2
theorem mayQ (l : List S42) : mayE l = true ↔ MayQ l := by
  rw [mayE_iff]
  unfold MayP MayQ
  refine and_congr_right fun h64 => ⟨fun h => ⟨fun x hx => ?_, ?_⟩, fun ⟨hg, hp⟩ i hi => ?_⟩
  · obtain ⟨i, hi, rfl⟩ := List.mem_iff_getElem.1 hx
    have := h i hi
    rw [okAt_get hi, Bool.and_eq_true, Bool.and_eq_true] at this
    exact this.1
  · rw [List.pairwise_iff_getElem]
    have step : ∀ i, (hi : i + 1 < l.length) → Lt l[i] l[i + 1] := fun i hi => by
      have := h (i + 1) hi
      rw [okAt_get hi, Bool.and_eq_true, Bool.or_eq_true] at this
      rcases this.2 with h1 | h1
      · exact absurd (of_decide_eq_true h1) (by omega)
      · have h2 := of_decide_eq_true h1
        rw [Nat.add_sub_cancel, (at_get (show i < l.length by omega)).2] at h2
        exact h2
    have key : ∀ (k i : Nat) (hi : i + 1 + k < l.length), Lt (l[i]'(by omega)) l[i + 1 + k] := by
      intro k
      induction k with
      | zero => intro i hi; exact step i hi
      | succ k ih => intro i hi; exact (ih i (by omega)).trans (step (i + 1 + k) hi)
    intro i j hi hj hij
    have := key (j - i - 1) i (by omega)
    simpa [show i + 1 + (j - i - 1) = j by omega] using this
  · rw [okAt_get hi]
    obtain ⟨g1, g2⟩ := hg _ (List.getElem_mem hi)
    rw [g1, g2]
    rcases Nat.eq_zero_or_pos i with h0 | h0
    · simp [h0]
    · have h1 := List.pairwise_iff_getElem.1 hp (i - 1) i (by omega) hi (by omega)
      unfold Lt at h1
      rw [(at_get (show i - 1 < l.length by omega)).2, decide_eq_true h1]
      simp
/-- Where a name stands among those ahead of it and those that are not. -/
theorem atE_split {P Q : List S42} {nm : ByteArray} (hP : ∀ y ∈ P, NM.ahead y.f1.data.toList nm.data.toList < 0) (hQ : ∀ y ∈ Q, 0 ≤ NM.ahead y.f1.data.toList nm.data.toList) : atE (P ++ Q) nm = P.length := by
  refine atE_is (by simp) (fun i hi => ?_) (fun h => ?_)
  · have hi' : i < (P ++ Q).length := by rw [List.length_append]; omega
    unfold geAt
    rw [(at_get hi').2, List.getElem_append_left hi, decide_eq_false]
    have := hP _ (List.getElem_mem hi)
    omega
  · unfold geAt
    rw [(at_get h).2, List.getElem_append_right (Nat.le_refl _), decide_eq_true]
    exact hQ _ (List.getElem_mem _)
theorem isE_split_no {P Q : List S42} {nm : ByteArray} (hP : ∀ y ∈ P, NM.ahead y.f1.data.toList nm.data.toList < 0) (hQ : ∀ y ∈ Q, 0 < NM.ahead y.f1.data.toList nm.data.toList) : isE (P ++ Q) nm = false := by
  unfold isE
  rw [atE_split hP (fun y hy => Int.le_of_lt (hQ y hy))]
  by_cases h : P.length < (P ++ Q).length
  · rw [decide_eq_true h, Bool.true_and, (at_get h).2, List.getElem_append_right (Nat.le_refl _), Lib.toList_data, Lib.toList_data]
    have := hQ (Q[P.length - P.length]'(by rw [List.length_append] at h; omega)) (List.getElem_mem _)
    rw [beq_eq_false_iff_ne]
    intro e
    have := NM.ahead_zero.2 e
    omega
  · rw [decide_eq_false h, Bool.false_and]
theorem isE_split_yes {P Q : List S42} {x : S42} (hP : ∀ y ∈ P, NM.ahead y.f1.data.toList x.f1.data.toList < 0) (hQ : ∀ y ∈ Q, Lt x y) : atE (P ++ x :: Q) x.f1 = P.length ∧ isE (P ++ x :: Q) x.f1 = true := by
  have h0 : NM.ahead x.f1.data.toList x.f1.data.toList = 0 := NM.ahead_zero.2 rfl
  have ha : atE (P ++ x :: Q) x.f1 = P.length := atE_split hP (fun y hy => by
    rcases List.mem_cons.1 hy with rfl | h
    · omega
    · have h1 := hQ y h
      unfold Lt at h1
      have := NM.ahead_neg x.f1.data.toList y.f1.data.toList
      omega)
  refine ⟨ha, ?_⟩
  unfold isE
  have hl : P.length < (P ++ x :: Q).length := by simp
  rw [ha, decide_eq_true hl, Bool.true_and, (at_get hl).2]
  simp
/-- A directory's entries around a name. -/
theorem may_split {l : List S42} (h : MayQ l) (nm : ByteArray) (hi : isE l nm = false) : (∀ y ∈ l.take (atE l nm), NM.ahead y.f1.data.toList nm.data.toList < 0) ∧ (∀ y ∈ l.drop (atE l nm), 0 < NM.ahead y.f1.data.toList nm.data.toList) := by
  refine ⟨fun y hy => ?_, fun y hy => ?_⟩
  · obtain ⟨i, hi, rfl⟩ := List.mem_take_iff_getElem.1 hy
    have h1 := atE_lt (l := l) (nm := nm) (i := i) (by omega)
    unfold geAt at h1
    rw [(at_get (show i < l.length by omega)).2] at h1
    have := of_decide_eq_false h1
    omega
  · obtain ⟨i, hil, e⟩ := List.mem_drop_iff_getElem.1 hy
    have e' : y = l[i + atE l nm]'(by omega) := by rw [← e]; simp only [Nat.add_comm]
    rw [e']
    clear e e'
    have hlt : atE l nm < l.length := by omega
    have h1 := atE_at hlt
    unfold geAt at h1
    rw [(at_get hlt).2] at h1
    have h2 := of_decide_eq_true h1
    have h3 : 0 < NM.ahead l[atE l nm].f1.data.toList nm.data.toList := by
      rcases Int.lt_or_eq_of_le h2 with h | h
      · exact h
      · have h4 := NM.ahead_zero.1 h.symm
        unfold isE at hi
        rw [decide_eq_true hlt, Bool.true_and, (at_get hlt).2, Lib.toList_data, Lib.toList_data, h4] at hi
        simp at hi
    rcases Nat.eq_zero_or_pos i with h0 | h0
    · subst h0; simpa using h3
    · have h5 := List.pairwise_iff_getElem.1 h.2.2 (atE l nm) (i + atE l nm) hlt hil (by omega)
      have h6 : Lt ⟨0, nm⟩ l[atE l nm] := by
        show NM.ahead nm.data.toList l[atE l nm].f1.data.toList < 0
        have := NM.ahead_neg nm.data.toList l[atE l nm].f1.data.toList
        omega
      have h7 : NM.ahead nm.data.toList l[i + atE l nm].f1.data.toList < 0 := h6.trans h5
      have := NM.ahead_neg nm.data.toList l[i + atE l nm].f1.data.toList
      omega
/-- What holds of a directory with one more. -/
theorem ins_may_yes {l : List S42} {x : S42} (h : mayE l = true) (he : insErr l x = none) : mayE (insE l (atE l x.f1) x) = true ∧ atE (insE l (atE l x.f1) x) x.f1 = atE l x.f1 ∧ isE (insE l (atE l x.f1) x) x.f1 = true ∧ (insE l (atE l x.f1) x).eraseIdx (atE l x.f1) = l := by
  obtain ⟨hm, hv, ho, hx, hl⟩ := insErr_none he
  have hq := (mayQ l).1 h
  obtain ⟨s1, s2⟩ := may_split hq x.f1 hx
  have hat := atE_le l x.f1
  have hPl : (l.take (atE l x.f1)).length = atE l x.f1 := by rw [List.length_take]; omega
  have e1 : insE l (atE l x.f1) x = l.take (atE l x.f1) ++ x :: l.drop (atE l x.f1) := by simp [insE]
  have hQ : ∀ y ∈ l.drop (atE l x.f1), Lt x y := fun y hy => by
    have h1 := s2 y hy
    unfold Lt
    have := NM.ahead_neg x.f1.data.toList y.f1.data.toList
    omega
  have hp := hq.2.2
  rw [← List.take_append_drop (atE l x.f1) l, List.pairwise_append] at hp
  refine ⟨(mayQ _).2 ⟨by rw [insE_length _ hat]; omega, fun y hy => ?_, ?_⟩, ?_, ?_, ?_⟩
  · rw [e1] at hy
    rcases List.mem_append.1 hy with h | h
    · exact hq.2.1 y (List.mem_of_mem_take h)
    · rcases List.mem_cons.1 h with rfl | h
      · exact ⟨ho, hv⟩
      · exact hq.2.1 y (List.mem_of_mem_drop h)
  · rw [e1, List.pairwise_append]
    refine ⟨hp.1, List.pairwise_cons.2 ⟨hQ, hp.2.1⟩, fun a ha b hb => ?_⟩
    rcases List.mem_cons.1 hb with rfl | hb
    · exact s1 a ha
    · exact hp.2.2 a ha b hb
  · rw [e1, (isE_split_yes s1 hQ).1, hPl]
  · rw [e1]; exact (isE_split_yes s1 hQ).2
  · rw [e1, List.eraseIdx_append_of_length_le (by omega), hPl, Nat.sub_self, List.eraseIdx_cons_zero, List.take_append_drop]
/-- A directory around one of its entries. -/
theorem may_at {l : List S42} (h : mayE l = true) {k : Nat} (hk : k < l.length) : l = l.take k ++ l[k] :: l.drop (k + 1) ∧ (∀ y ∈ l.take k, Lt y l[k]) ∧ (∀ y ∈ l.drop (k + 1), Lt l[k] y) ∧ (l.take k).length = k := by
  have hq := (mayQ l).1 h
  have e : l = l.take k ++ l[k] :: l.drop (k + 1) := by rw [← List.drop_eq_getElem_cons hk, List.take_append_drop]
  have hp := hq.2.2
  rw [e, List.pairwise_append, List.pairwise_cons] at hp
  exact ⟨e, fun y hy => hp.2.2 y hy _ (List.mem_cons_self ..), hp.2.1.1, by rw [List.length_take]; omega⟩
theorem find_own {l : List S42} (h : mayE l = true) {k : Nat} (hk : k < l.length) : atE l (nameAt l k) = k ∧ isE l (nameAt l k) = true := by
  obtain ⟨e, h1, h2, h3⟩ := may_at h hk
  rw [(at_get hk).2]
  have := isE_split_yes (P := l.take k) (Q := l.drop (k + 1)) (x := l[k]) h1 h2
  rw [← e, h3] at this
  exact this
theorem good_at {l : List S42} (h : mayE l = true) {k : Nat} (hk : k < l.length) : Good l[k] := ((mayQ l).1 h).2.1 _ (List.getElem_mem hk)
theorem less_may {l : List S42} (h : mayE l = true) (k : Nat) : mayE (l.eraseIdx k) = true := by
  have hq := (mayQ l).1 h
  exact (mayQ _).2 ⟨Nat.le_trans (List.length_eraseIdx_le l k) hq.1, fun x hx => hq.2.1 x (List.mem_of_mem_eraseIdx hx), hq.2.2.sublist (List.eraseIdx_sublist l k)⟩
theorem less_back {l : List S42} (h : mayE l = true) {k : Nat} (hk : k < l.length) : insErr (l.eraseIdx k) l[k] = none ∧ insE (l.eraseIdx k) (atE (l.eraseIdx k) l[k].f1) l[k] = l := by
  obtain ⟨e, h1, h2, h3⟩ := may_at h hk
  obtain ⟨g1, g2⟩ := good_at h hk
  have hq := (mayQ l).1 h
  have hpos : ∀ y ∈ l.drop (k + 1), 0 < NM.ahead y.f1.data.toList l[k].f1.data.toList := fun y hy => by
    have h4 := h2 y hy
    unfold Lt at h4
    have := NM.ahead_neg l[k].f1.data.toList y.f1.data.toList
    omega
  have e2 : l.eraseIdx k = l.take k ++ l.drop (k + 1) := List.eraseIdx_eq_take_drop_succ l k
  have ha : atE (l.eraseIdx k) l[k].f1 = k := by rw [e2, atE_split h1 (fun y hy => Int.le_of_lt (hpos y hy)), h3]
  have hi : isE (l.eraseIdx k) l[k].f1 = false := by rw [e2, isE_split_no h1 hpos]
  have hl : (l.eraseIdx k).length < 64 := by rw [List.length_eraseIdx, if_pos hk]; have := hq.1; omega
  refine ⟨?_, ?_⟩
  · unfold insErr
    rw [if_pos (less_may h k), if_pos g2, if_pos g1, hi, if_neg (by simp), if_neg (by omega)]
  · rw [ha]
    unfold insE
    rw [e2, List.take_left' h3, List.drop_left' h3]
    rw [List.append_assoc, List.singleton_append, ← e]
theorem set_keep {l : List S42} (h : mayE l = true) {k : Nat} (hk : k < l.length) {x : Int} (hx : okIno x = true) : mayE (l.set k ⟨x, nameAt l k⟩) = true := by
  have hq := (mayQ l).1 h
  refine (mayQ _).2 ⟨by rw [List.length_set]; exact hq.1, fun y hy => ?_, ?_⟩
  · rcases List.mem_or_eq_of_mem_set hy with h | rfl
    · exact hq.2.1 y h
    · exact ⟨hx, by rw [(at_get hk).2]; exact (good_at h hk).2⟩
  · rw [List.pairwise_iff_getElem]
    intro i j hi hj hij
    rw [List.length_set] at hi hj
    have h1 := List.pairwise_iff_getElem.1 hq.2.2 i j hi hj hij
    have hn : ∀ q (hq : q < l.length), ((l.set k ⟨x, nameAt l k⟩)[q]'(by rw [List.length_set]; exact hq)).f1 = l[q].f1 := fun q hq => by
      rw [List.getElem_set]
      split
      · next e => subst e; exact (at_get hq).2
      · rfl
    unfold Lt at *
    rw [hn i hi, hn j hj]
    exact h1
theorem set_back {l : List S42} {k : Nat} (hk : k < l.length) (x : Int) : (l.set k ⟨x, nameAt l k⟩).set k ⟨inoAt l k, nameAt l k⟩ = l := by
  rw [List.set_set, (at_get hk).1, (at_get hk).2]
  exact List.set_getElem_self hk
/-- Entries put in one by one. -/
def putIn (d : List S42) (x : S42) : List S42 := match insErr d x with | some _ => d | none => insE d (atE d x.f1) x
def bE (l : List S42) : List S42 := l.foldl putIn []
theorem bE_snoc (l : List S42) (x : S42) : bE (l ++ [x]) = putIn (bE l) x := by simp [bE]
theorem putIn_may {d : List S42} (h : mayE d = true) (x : S42) : mayE (putIn d x) = true := by
  unfold putIn
  cases he : insErr d x with
  | some y => exact h
  | none => exact (ins_may_yes h he).1
theorem putIn_mem {d : List S42} {x y : S42} (h : y ∈ putIn d x) : y ∈ d ∨ y = x := by
  unfold putIn at h
  split at h
  · exact .inl h
  · simp only [insE, List.mem_append, List.mem_singleton] at h
    rcases h with (h | h) | h
    · exact .inl (List.mem_of_mem_take h)
    · exact .inr h
    · exact .inl (List.mem_of_mem_drop h)
theorem foldl_may : ∀ (l : List S42) (d : List S42), mayE d = true → mayE (l.foldl putIn d) = true
  | [], d, h => h
  | x :: l, d, h => foldl_may l _ (putIn_may h x)
theorem bE_may (l : List S42) : mayE (bE l) = true := foldl_may l [] (by decide)
theorem foldl_mem : ∀ (l : List S42) (d : List S42) (y : S42), y ∈ l.foldl putIn d → y ∈ d ∨ y ∈ l
  | [], d, y, h => .inl h
  | x :: l, d, y, h => by
    rcases foldl_mem l _ y h with h | h
    · rcases putIn_mem h with h | rfl
      · exact .inl h
      · exact .inr (List.mem_cons_self ..)
    · exact .inr (List.mem_cons_of_mem _ h)
theorem bE_mem {l : List S42} {y : S42} (h : y ∈ bE l) : y ∈ l := by
  rcases foldl_mem l [] y h with h | h
  · cases h
  · exact h
end Go.Proofs.YtneanbckmekdkaaDoor.EN

end

section
/- EntryMaps: what Insert, Remove, Set answer at a directory's own entries. -/
namespace Go.Proofs.YtneanbckmekdkaaDoor.EN
open Go Go.RowKit Go.Proofs.YtneanbckmekdkaaDoorX Go.Proofs.YtneanbckmekdkaaDoor.NM Go.Proofs.YtneanbckmekdkaaDoorW.PrintWords Go.Proofs.YtneanbckmekdkaaDoor.PEntryForms
set_option linter.unusedVariables false
set_option linter.unusedSimpArgs false
theorem insE_at (l : List S42) {i : Nat} (x : S42) (h : i ≤ l.length) : inoAt (insE l i x) i = x.f0 ∧ nameAt (insE l i x) i = x.f1 := by
  have hl : i < (insE l i x).length := by rw [insE_length x h]; omega
  have e' : (insE l i x)[i]? = some x := by
    have h1 : (l.take i ++ [x]).length = i + 1 := by simp; omega
    have h2 : (l.take i).length = i := by simp; omega
    unfold insE
    rw [List.getElem?_append_left (by omega), List.getElem?_append_right (by omega), h2]
    simp
  have e : (insE l i x)[i] = x := (List.getElem?_eq_some_iff.1 e').2
  rw [(at_get hl).1, (at_get hl).2, e]
  exact ⟨rfl, rfl⟩
theorem insR_yes {l : List S42} {x : S42} (he : insErr l x = none) : insR l x = (insE l (atE l x.f1) x, 0) := by unfold insR; rw [he]
theorem rem_ins {l : List S42} {x : S42} (h : mayE l = true) (he : insErr l x = none) : remR (insE l (atE l x.f1) x) x.f1 = (l, x.f0, 0) := by
  obtain ⟨h1, h2, h3, h4⟩ := ins_may_yes h he
  unfold remR remErr
  rw [if_pos h1, if_pos h3]
  show ((insE l (atE l x.f1) x).eraseIdx (atE (insE l (atE l x.f1) x) x.f1), inoAt (insE l (atE l x.f1) x) (atE (insE l (atE l x.f1) x) x.f1), (0 : Int)) = _
  rw [h2, h4, (insE_at l x (atE_le l x.f1)).1]
theorem rem_own {l : List S42} (h : mayE l = true) {k : Nat} (hk : k < l.length) : remR l (nameAt l k) = (l.eraseIdx k, inoAt l k, 0) := by
  obtain ⟨h1, h2⟩ := find_own h hk
  unfold remR remErr
  rw [if_pos h, if_pos h2]
  show (l.eraseIdx (atE l (nameAt l k)), inoAt l (atE l (nameAt l k)), (0 : Int)) = _
  rw [h1]
theorem ins_back {l : List S42} (h : mayE l = true) {k : Nat} (hk : k < l.length) : insR (l.eraseIdx k) ⟨inoAt l k, nameAt l k⟩ = (l, 0) := by
  obtain ⟨h1, h2⟩ := less_back h hk
  have e : (⟨inoAt l k, nameAt l k⟩ : S42) = l[k] := by rw [(at_get hk).1, (at_get hk).2]
  rw [e, insR_yes h1, h2]
theorem set_own {l : List S42} (h : mayE l = true) {k : Nat} (hk : k < l.length) {x : Int} (hx : okIno x = true) : setR l (nameAt l k) x = (l.set k ⟨x, nameAt l k⟩, inoAt l k, 0) := by
  obtain ⟨h1, h2⟩ := find_own h hk
  unfold setR setErr
  rw [if_pos ⟨h, hx⟩, if_pos h2]
  show (l.set (atE l (nameAt l k)) ⟨x, nameAt l (atE l (nameAt l k))⟩, inoAt l (atE l (nameAt l k)), (0 : Int)) = _
  rw [h1]
theorem rem_nil (s : ByteArray) : remR [] s = ([], 0, 32) := by
  unfold remR remErr
  rw [if_pos (by decide), if_neg (by simp [isE, atE])]
theorem ent_neq (w : World) (a : Int) (s : ByteArray) : (binOp .neq 42 (.agg #[.int .i64 a, .string s]) (.agg #[.int .i64 a, .string s])).run Tryd.prog w = .ok (.bool false) w := by
  rw [run_neq_struct, show (10000 : Nat) = 9998 + 2 from rfl, eqA42 9998]
  simp
end Go.Proofs.YtneanbckmekdkaaDoor.EN

end

section
/- EntryMaps: built: the walk. -/
namespace Go.Proofs.YtneanbckmekdkaaDoor.EN
open Go Go.RowKit Go.Proofs.YtneanbckmekdkaaDoorX Go.Proofs.YtneanbckmekdkaaDoor.NM Go.Proofs.YtneanbckmekdkaaDoorW.PrintWords Go.Proofs.YtneanbckmekdkaaDoorW.PrintLast Go.Proofs.YtneanbckmekdkaaDoorW.PrintMore Go.Proofs.YtneanbckmekdkaaDoor.PEntryForms
set_option linter.unusedVariables false
set_option linter.unusedSimpArgs false
/-- Whether an entry may be put in, part by part. -/
theorem insErr_some {l : List S42} {x : S42} {y : Int} (hm : mayE l = true) (h : insErr l x = some y) : y ≠ 0 ∧ (valid x.f1.data.toList = false ∨ valid x.f1.data.toList = true ∧ (x.f0 < 1 ∨ 64 < x.f0 ∧ 1 ≤ x.f0 ∨ (1 ≤ x.f0 ∧ x.f0 ≤ 64) ∧ (isE l x.f1 = true ∨ isE l x.f1 = false ∧ 64 ≤ l.length))) := by
  unfold insErr at h
  rw [if_pos hm] at h
  cases hv : valid x.f1.data.toList with
  | false => rw [hv, if_neg (by simp)] at h; cases h; exact ⟨by decide, .inl rfl⟩
  | true =>
    rw [hv, if_pos rfl] at h
    by_cases h1 : x.f0 < 1
    · rw [if_neg (by simp [okIno]; omega)] at h
      cases h; exact ⟨by decide, .inr ⟨rfl, .inl h1⟩⟩
    · by_cases h2 : 64 < x.f0
      · rw [if_neg (by simp [okIno]; omega)] at h
        cases h; exact ⟨by decide, .inr ⟨rfl, .inr (.inl ⟨h2, by omega⟩)⟩⟩
      · rw [if_pos (show okIno x.f0 = true by simp [okIno]; omega)] at h
        cases hi : isE l x.f1 with
        | true => rw [hi, if_pos rfl] at h; cases h; exact ⟨by decide, .inr ⟨rfl, .inr (.inr ⟨⟨by omega, by omega⟩, .inl rfl⟩)⟩⟩
        | false =>
          rw [hi, if_neg (by simp)] at h
          by_cases h3 : 64 ≤ l.length
          · rw [if_pos h3] at h; cases h; exact ⟨by decide, .inr ⟨rfl, .inr (.inr ⟨⟨by omega, by omega⟩, .inr ⟨rfl, h3⟩⟩)⟩⟩
          · rw [if_neg h3] at h; cases h
set_option maxHeartbeats 8000000 in
set_option maxRecDepth 100000 in
theorem built_any (A : Option Addr) (c : Nat) (l : List S42) (w : World) (hr : Row w A l) (hl : l.length ≤ 1048576) (hz : ∀ x ∈ l, x.f1.size ≤ 1048576) (hT : Lib.Utf8Tabs 1 2 w) :
    Calls Tryd.prog 26 #[.slice A l.length c] w fun e w' => ∃ v, e = .returned (.tuple #[v, .bool true]) ∧ w'.ownsRow w.heap.size 42 2 v (bE l).length (rowsE (bE l)) ∧ Below w.heap.size w w' := by
  have HR := Aside0.mk hr
  have HL := Aside0.mk hl
  have HZ := Aside0.mk hz
  have HT := Aside0.mk hT
  have hu42 := Aside0.mk Tryd.underlying42
  clear hr hl hz hT
  go_enter Tryd.func26, Tryd.ntmps26
  go_wp2
  go_loopw [4, 5] (fun v i wr => ∃ j : Nat, j ≤ l.length ∧ i = .int .i64 j ∧ Aside0 (wr.ownsRow w.heap.size 42 2 v (bE (l.take j)).length (rowsE (bE (l.take j)))) ∧ Aside0 (Below w.heap.size w wr)) (fun _ i _ => l.length - (intOf i).toNat)
  case atStart => exact ⟨0, Nat.zero_le _, rfl, ⟨own_nil _ _ _ _⟩, ⟨Below.refl _ _⟩⟩
  case round =>
    obtain ⟨j, hj, rfl, HO, HW⟩ := hrel
    by_cases hlt : j < l.length
    · have hlt' : (j : Int) < (l.length : Int) := by omega
      have hj0 : (0 : Int) ≤ (j : Int) := Int.natCast_nonneg _
      have hL := HL.out
      obtain ⟨ad, rfl, c0, c1⟩ := (HR.out.below HW.out).at_ hlt
      have hx := at_get hlt
      have hnx : bE (l.take (j + 1)) = putIn (bE (l.take j)) ⟨inoAt l j, nameAt l j⟩ := by
        rw [hx.1, hx.2, List.take_succ_eq_append_getElem hlt, bE_snoc]
      obtain ⟨nmx, hmx, enm⟩ := nameAt_mem hlt
      have hnz := HZ.out nmx hmx
      rw [← enm] at hnz
      have hdm := bE_may (l.take j)
      have hdz : ∀ y ∈ bE (l.take j), y.f1.size ≤ 1048576 := fun y hy => HZ.out y (List.mem_of_mem_take (bE_mem hy))
      obtain ⟨D, hD⟩ : ∃ D, bE (l.take j) = D := ⟨_, rfl⟩
      obtain ⟨ino, hino⟩ : ∃ x, inoAt l j = x := ⟨_, rfl⟩
      obtain ⟨nm, hnm⟩ : ∃ x, nameAt l j = x := ⟨_, rfl⟩
      rw [hD] at HO hnx hdm hdz
      rw [hino] at c0 hnx
      rw [hnm] at c1 hnx hnz
      obtain ⟨B, d, hB⟩ := own_slice HO.out
      subst hB
      have hd64 := ((mayE_iff D).1 hdm).1
      have RD := Aside0.mk (own_row HO.out (fun y hy => Nat.le_trans (hdz y hy) (by decide)))
      have HD64 := Aside0.mk (show D.length ≤ 9223372036854775807 by omega)
      have HDL := Aside0.mk (show D.length ≤ 1048576 by omega)
      have HDZ := Aside0.mk (show ∀ y ∈ D, y.f1.size ≤ 17592186044416 from fun y hy => Nat.le_trans (hdz y hy) (by decide))
      have HDZ2 := Aside0.mk hdz
      have HNZ := Aside0.mk (show nm.size ≤ 17592186044416 by omega)
      have HNZ2 := Aside0.mk hnz
      have HX := Aside0.mk hx
      clear hx hnz hdz hD hino hnm enm hmx
      cases he : insErr D ⟨ino, nm⟩ with
      | none =>
        obtain ⟨_, hv, ho, hi, hlen⟩ := insErr_none he
        have HV := Aside0.mk hv
        have HTH := Aside0.mk hi
        have hR : insR D ⟨ino, nm⟩ = (insE D (atE D nm) ⟨ino, nm⟩, 0) := by unfold insR; rw [he]
        have HNX := Aside0.mk (show bE (l.take (j + 1)) = insE D (atE D nm) ⟨ino, nm⟩ by rw [hnx]; unfold putIn; rw [he])
        have HIX := Aside0.mk (show (insR D ⟨ino, nm⟩).2 = 0 by rw [hR])
        have HIR := Aside0.mk (show (insR D ⟨ino, nm⟩).1 = insE D (atE D nm) ⟨ino, nm⟩ by rw [hR])
        have ho1 : 1 ≤ ino := by simp [okIno] at ho; omega
        have ho2 : ino ≤ 64 := by simp [okIno] at ho; omega
        have hlen' : (D.length : Int) < 64 := by omega
        clear hnx hdm hv ho hi hlen hR he
        go_wp2_with (first
            | (have hz := HB2.out; clear hz; go_at_call 30; refine (valid_any nm _ (by have := HNZ.out; omega) (Utf8Tabs_below HT.out HB2.out)).mono ?_; rw [HV.out]; rintro e w3 ⟨rfl, hb⟩; have HB3 := Aside0.mk (below_then HB2.out HB2.out.size hb); have c0 := pw_cell_below hb c0; have c1 := pw_cell_below hb c1; have OD3 := Aside0.mk (pw_own_below OD2.out hb); have OI3 := Aside0.mk (pw_own_below OI2.out hb); clear hb)
            | (have hz := HB1.out; clear hz; go_at_call 20; refine (ins_all B d D w1 RD1.out HDL.out HDZ2.out (Utf8Tabs_below HT.out HB1.out) ino nm HNZ2.out).mono ?_; rw [HIX.out, HIR.out]; rintro e w2 ⟨v', rfl, ho, hb⟩; have HB2 := Aside0.mk (below_then HB1.out HB1.out.size hb); have c0 := pw_cell_below hb c0; have c1 := pw_cell_below hb c1; have OD2 := Aside0.mk (pw_own_below OD1.out hb); have OI2 := Aside0.mk (own_less ho HB1.out.size); clear hb ho)
            | (have hz := HB1.out; clear hz; (with_reducible refine gate_dst (N := 32) rfl ?_); refine wpList_load_pair rfl 42 (.tmp 31) rfl (ad.add (j * 2)) (by kernel_rfl) _ _ _ c0 c1 hu42.out rfl (by kernel_rfl) ?_)
            | (go_at_call 18; refine (find_any B d D nm wr RD.out HD64.out HDZ.out HNZ.out).mono ?_; rw [HTH.out]; rintro e w1 ⟨rfl, hb⟩; have HB1 := Aside0.mk (below_then HW.out HW.out.size hb); have c0 := pw_cell_below hb c0; have c1 := pw_cell_below hb c1; have RD1 := Aside0.mk (RD.out.below hb); have OD1 := Aside0.mk (pw_own_below HO.out hb); clear hb))
        go_roundw
        case rel =>
          exact ⟨j + 1, by omega, by go_num, ⟨by rw [HNX.out]; exact OI3.out⟩, HB3⟩
        case measure => simp [intOf]; omega
      | some y =>
        obtain ⟨hy0, hwhy⟩ := insErr_some hdm he
        have hR : insR D ⟨ino, nm⟩ = ([], y) := by unfold insR; rw [he]
        have HNX := Aside0.mk (show bE (l.take (j + 1)) = D by rw [hnx]; unfold putIn; rw [he])
        have HIX := Aside0.mk (show (insR D ⟨ino, nm⟩).2 = y by rw [hR])
        have HIR := Aside0.mk (show (insR D ⟨ino, nm⟩).1 = [] by rw [hR])
        have hyb : (y == 0) = false := beq_eq_false_iff_ne.2 hy0
        obtain ⟨TH, HTH⟩ : ∃ q, Aside0 (isE D nm = q) := ⟨_, ⟨rfl⟩⟩
        clear hnx hdm hR he
        dsimp only at hwhy
        rcases hwhy with hv | ⟨hv, h1 | ⟨h2, h1⟩ | ⟨⟨h1, h2⟩, hi | ⟨hi, h3⟩⟩⟩
        · have HV := Aside0.mk hv
          clear hv
          go_wp2_with (first
              | (have hz := HB2.out; clear hz; go_at_call 30; refine (valid_any nm _ (by have := HNZ.out; omega) (Utf8Tabs_below HT.out HB2.out)).mono ?_; rw [HV.out]; rintro e w3 ⟨rfl, hb⟩; have HB3 := Aside0.mk (below_then HB2.out HB2.out.size hb); have c0 := pw_cell_below hb c0; have c1 := pw_cell_below hb c1; have OD3 := Aside0.mk (pw_own_below OD2.out hb); have OI3 := Aside0.mk (pw_own_below OI2.out hb); clear hb)
              | (have hz := HB1.out; clear hz; go_at_call 20; refine (ins_all B d D w1 RD1.out HDL.out HDZ2.out (Utf8Tabs_below HT.out HB1.out) ino nm HNZ2.out).mono ?_; rw [HIX.out, HIR.out]; rintro e w2 ⟨v', rfl, ho, hb⟩; have HB2 := Aside0.mk (below_then HB1.out HB1.out.size hb); have c0 := pw_cell_below hb c0; have c1 := pw_cell_below hb c1; have OD2 := Aside0.mk (pw_own_below OD1.out hb); have OI2 := Aside0.mk (own_less ho HB1.out.size); clear hb ho)
              | (have hz := HB1.out; clear hz; (with_reducible refine gate_dst (N := 32) rfl ?_); refine wpList_load_pair rfl 42 (.tmp 31) rfl (ad.add (j * 2)) (by kernel_rfl) _ _ _ c0 c1 hu42.out rfl (by kernel_rfl) ?_)
              | (go_at_call 18; refine (find_any B d D nm wr RD.out HD64.out HDZ.out HNZ.out).mono ?_; rw [HTH.out]; rintro e w1 ⟨rfl, hb⟩; have HB1 := Aside0.mk (below_then HW.out HW.out.size hb); have c0 := pw_cell_below hb c0; have c1 := pw_cell_below hb c1; have RD1 := Aside0.mk (RD.out.below hb); have OD1 := Aside0.mk (pw_own_below HO.out hb); clear hb))
          go_roundw
          case rel =>
            exact ⟨j + 1, by omega, by go_num, ⟨by rw [HNX.out]; exact OD3.out⟩, HB3⟩
          case measure => simp [intOf]; omega
        · have HV := Aside0.mk hv
          have h1' : ¬ (1 ≤ ino) := by omega
          clear hv
          go_wp2_with (first
              | (have hz := HB2.out; clear hz; go_at_call 30; refine (valid_any nm _ (by have := HNZ.out; omega) (Utf8Tabs_below HT.out HB2.out)).mono ?_; rw [HV.out]; rintro e w3 ⟨rfl, hb⟩; have HB3 := Aside0.mk (below_then HB2.out HB2.out.size hb); have c0 := pw_cell_below hb c0; have c1 := pw_cell_below hb c1; have OD3 := Aside0.mk (pw_own_below OD2.out hb); have OI3 := Aside0.mk (pw_own_below OI2.out hb); clear hb)
              | (have hz := HB1.out; clear hz; go_at_call 20; refine (ins_all B d D w1 RD1.out HDL.out HDZ2.out (Utf8Tabs_below HT.out HB1.out) ino nm HNZ2.out).mono ?_; rw [HIX.out, HIR.out]; rintro e w2 ⟨v', rfl, ho, hb⟩; have HB2 := Aside0.mk (below_then HB1.out HB1.out.size hb); have c0 := pw_cell_below hb c0; have c1 := pw_cell_below hb c1; have OD2 := Aside0.mk (pw_own_below OD1.out hb); have OI2 := Aside0.mk (own_less ho HB1.out.size); clear hb ho)
              | (have hz := HB1.out; clear hz; (with_reducible refine gate_dst (N := 32) rfl ?_); refine wpList_load_pair rfl 42 (.tmp 31) rfl (ad.add (j * 2)) (by kernel_rfl) _ _ _ c0 c1 hu42.out rfl (by kernel_rfl) ?_)
              | (go_at_call 18; refine (find_any B d D nm wr RD.out HD64.out HDZ.out HNZ.out).mono ?_; rw [HTH.out]; rintro e w1 ⟨rfl, hb⟩; have HB1 := Aside0.mk (below_then HW.out HW.out.size hb); have c0 := pw_cell_below hb c0; have c1 := pw_cell_below hb c1; have RD1 := Aside0.mk (RD.out.below hb); have OD1 := Aside0.mk (pw_own_below HO.out hb); clear hb))
          go_roundw
          case rel =>
            exact ⟨j + 1, by omega, by go_num, ⟨by rw [HNX.out]; exact OD3.out⟩, HB3⟩
          case measure => simp [intOf]; omega
        · have HV := Aside0.mk hv
          have h2' : ¬ (ino ≤ 64) := by omega
          clear hv
          go_wp2_with (first
              | (have hz := HB2.out; clear hz; go_at_call 30; refine (valid_any nm _ (by have := HNZ.out; omega) (Utf8Tabs_below HT.out HB2.out)).mono ?_; rw [HV.out]; rintro e w3 ⟨rfl, hb⟩; have HB3 := Aside0.mk (below_then HB2.out HB2.out.size hb); have c0 := pw_cell_below hb c0; have c1 := pw_cell_below hb c1; have OD3 := Aside0.mk (pw_own_below OD2.out hb); have OI3 := Aside0.mk (pw_own_below OI2.out hb); clear hb)
              | (have hz := HB1.out; clear hz; go_at_call 20; refine (ins_all B d D w1 RD1.out HDL.out HDZ2.out (Utf8Tabs_below HT.out HB1.out) ino nm HNZ2.out).mono ?_; rw [HIX.out, HIR.out]; rintro e w2 ⟨v', rfl, ho, hb⟩; have HB2 := Aside0.mk (below_then HB1.out HB1.out.size hb); have c0 := pw_cell_below hb c0; have c1 := pw_cell_below hb c1; have OD2 := Aside0.mk (pw_own_below OD1.out hb); have OI2 := Aside0.mk (own_less ho HB1.out.size); clear hb ho)
              | (have hz := HB1.out; clear hz; (with_reducible refine gate_dst (N := 32) rfl ?_); refine wpList_load_pair rfl 42 (.tmp 31) rfl (ad.add (j * 2)) (by kernel_rfl) _ _ _ c0 c1 hu42.out rfl (by kernel_rfl) ?_)
              | (go_at_call 18; refine (find_any B d D nm wr RD.out HD64.out HDZ.out HNZ.out).mono ?_; rw [HTH.out]; rintro e w1 ⟨rfl, hb⟩; have HB1 := Aside0.mk (below_then HW.out HW.out.size hb); have c0 := pw_cell_below hb c0; have c1 := pw_cell_below hb c1; have RD1 := Aside0.mk (RD.out.below hb); have OD1 := Aside0.mk (pw_own_below HO.out hb); clear hb))
          go_roundw
          case rel =>
            exact ⟨j + 1, by omega, by go_num, ⟨by rw [HNX.out]; exact OD3.out⟩, HB3⟩
          case measure => simp [intOf]; omega
        · have HV := Aside0.mk hv
          clear HTH TH
          have HTH := Aside0.mk hi
          clear hv hi
          go_wp2_with (first
              | (have hz := HB2.out; clear hz; go_at_call 30; refine (valid_any nm _ (by have := HNZ.out; omega) (Utf8Tabs_below HT.out HB2.out)).mono ?_; rw [HV.out]; rintro e w3 ⟨rfl, hb⟩; have HB3 := Aside0.mk (below_then HB2.out HB2.out.size hb); have c0 := pw_cell_below hb c0; have c1 := pw_cell_below hb c1; have OD3 := Aside0.mk (pw_own_below OD2.out hb); have OI3 := Aside0.mk (pw_own_below OI2.out hb); clear hb)
              | (have hz := HB1.out; clear hz; go_at_call 20; refine (ins_all B d D w1 RD1.out HDL.out HDZ2.out (Utf8Tabs_below HT.out HB1.out) ino nm HNZ2.out).mono ?_; rw [HIX.out, HIR.out]; rintro e w2 ⟨v', rfl, ho, hb⟩; have HB2 := Aside0.mk (below_then HB1.out HB1.out.size hb); have c0 := pw_cell_below hb c0; have c1 := pw_cell_below hb c1; have OD2 := Aside0.mk (pw_own_below OD1.out hb); have OI2 := Aside0.mk (own_less ho HB1.out.size); clear hb ho)
              | (have hz := HB1.out; clear hz; (with_reducible refine gate_dst (N := 32) rfl ?_); refine wpList_load_pair rfl 42 (.tmp 31) rfl (ad.add (j * 2)) (by kernel_rfl) _ _ _ c0 c1 hu42.out rfl (by kernel_rfl) ?_)
              | (go_at_call 18; refine (find_any B d D nm wr RD.out HD64.out HDZ.out HNZ.out).mono ?_; rw [HTH.out]; rintro e w1 ⟨rfl, hb⟩; have HB1 := Aside0.mk (below_then HW.out HW.out.size hb); have c0 := pw_cell_below hb c0; have c1 := pw_cell_below hb c1; have RD1 := Aside0.mk (RD.out.below hb); have OD1 := Aside0.mk (pw_own_below HO.out hb); clear hb))
          go_roundw
          case rel =>
            exact ⟨j + 1, by omega, by go_num, ⟨by rw [HNX.out]; exact OD3.out⟩, HB3⟩
          case measure => simp [intOf]; omega
        · have HV := Aside0.mk hv
          clear HTH TH
          have HTH := Aside0.mk hi
          have h3' : ¬ ((D.length : Int) < 64) := by omega
          clear hv hi
          go_wp2_with (first
              | (have hz := HB2.out; clear hz; go_at_call 30; refine (valid_any nm _ (by have := HNZ.out; omega) (Utf8Tabs_below HT.out HB2.out)).mono ?_; rw [HV.out]; rintro e w3 ⟨rfl, hb⟩; have HB3 := Aside0.mk (below_then HB2.out HB2.out.size hb); have c0 := pw_cell_below hb c0; have c1 := pw_cell_below hb c1; have OD3 := Aside0.mk (pw_own_below OD2.out hb); have OI3 := Aside0.mk (pw_own_below OI2.out hb); clear hb)
              | (have hz := HB1.out; clear hz; go_at_call 20; refine (ins_all B d D w1 RD1.out HDL.out HDZ2.out (Utf8Tabs_below HT.out HB1.out) ino nm HNZ2.out).mono ?_; rw [HIX.out, HIR.out]; rintro e w2 ⟨v', rfl, ho, hb⟩; have HB2 := Aside0.mk (below_then HB1.out HB1.out.size hb); have c0 := pw_cell_below hb c0; have c1 := pw_cell_below hb c1; have OD2 := Aside0.mk (pw_own_below OD1.out hb); have OI2 := Aside0.mk (own_less ho HB1.out.size); clear hb ho)
              | (have hz := HB1.out; clear hz; (with_reducible refine gate_dst (N := 32) rfl ?_); refine wpList_load_pair rfl 42 (.tmp 31) rfl (ad.add (j * 2)) (by kernel_rfl) _ _ _ c0 c1 hu42.out rfl (by kernel_rfl) ?_)
              | (go_at_call 18; refine (find_any B d D nm wr RD.out HD64.out HDZ.out HNZ.out).mono ?_; rw [HTH.out]; rintro e w1 ⟨rfl, hb⟩; have HB1 := Aside0.mk (below_then HW.out HW.out.size hb); have c0 := pw_cell_below hb c0; have c1 := pw_cell_below hb c1; have RD1 := Aside0.mk (RD.out.below hb); have OD1 := Aside0.mk (pw_own_below HO.out hb); clear hb))
          go_roundw
          case rel =>
            exact ⟨j + 1, by omega, by go_num, ⟨by rw [HNX.out]; exact OD3.out⟩, HB3⟩
          case measure => simp [intOf]; omega
    · have hjn : j = l.length := by omega
      subst hjn
      clear hlt hj
      rw [List.take_length] at HO
      go_wp2
      go_ret2
      exact ⟨_, rfl, HO.out, HW.out⟩
end Go.Proofs.YtneanbckmekdkaaDoor.EN

end
