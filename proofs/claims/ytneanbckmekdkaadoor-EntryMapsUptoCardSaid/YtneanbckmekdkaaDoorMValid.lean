import Derived.Test.YtneanbckmekdkaaDoorPEntryFormsx4
import Derived.Test.YtneanbckmekdkaaDoorNMath
import Derived.Lib.OthersKept
import Derived.LoopTactic
import Derived.Test.YtneanbckmekdkaaDoorShelf
section
/- names.Runes: any text's runes. -/
namespace Go.Proofs.YtneanbckmekdkaaDoor.NM
open Go.RowKit Go.Proofs.YtneanbckmekdkaaDoorW.PrintWords Go.Proofs.YtneanbckmekdkaaDoorW.PrintLast Go.Proofs.YtneanbckmekdkaaDoorW.PrintMore Go.Proofs.YtneanbckmekdkaaDoor.PEntryForms
set_option linter.unusedVariables false
set_option maxHeartbeats 4000000 in
set_option maxRecDepth 1000000 in
theorem runes_any (s : ByteArray) (w : World) (hs : s.size ≤ 17592186044416) :
    Calls Tryd.prog 42 #[.string s] w fun e w' => ∃ v, e = .returned v ∧ Kd.R (Kd.int .i32) 21 w' w.heap.size (fun _ => True) v (runes s.data.toList) ∧ Below w.heap.size w w' := by
  go_enter Tryd.func42, Tryd.ntmps42
  go_wp2
  go_loopw [3] (fun v3 wr => ∃ (pos : Nat) (acc : List Int), Aside0 (wr.heap[w.heap.size]? = some (.stringIter s pos)) ∧ Aside0 (Kd.R (Kd.int .i32) 21 wr (w.heap.size + 1) (fun _ => True) v3 acc) ∧ Aside0 (acc ++ runes (s.data.toList.drop pos) = runes s.data.toList) ∧ Aside0 (acc.length ≤ pos) ∧ Aside0 (pos ≤ s.size) ∧ Aside0 (Below w.heap.size w wr)) (fun _ wr => s.size - wr.iterPos w.heap.size)
  case atStart =>
    refine ⟨0, [], ⟨World.iter_heap w s 0⟩, ⟨Kd.R_nil _ _ _ _ _⟩, ⟨by simp⟩, ⟨Nat.le_refl _⟩, ⟨Nat.zero_le _⟩, ⟨below_alloc (Below.refl _ _) _⟩⟩
  case round =>
    obtain ⟨pos, acc, HIT, HO, HACC, HAL, HP, HB⟩ := hrel
    have hsz : w.heap.size < wr.heap.size := (Array.getElem?_eq_some_iff.1 HIT.out).1
    by_cases hp : pos < s.size
    · have hnx : ∀ ty, (Instr.next (.pointer (some ⟨w.heap.size, 0, none⟩)) true ty).run Tryd.prog wr = _ := fun ty => Lib.run_next_any_at wr w.heap.size s pos ty HIT.out hp
      rw [decode_drop] at hnx
      have hl : s.data.toList.drop pos ≠ [] := by
        intro h
        have := congrArg List.length h
        rw [List.length_drop, ← Lib.size_eq] at this
        simp at this
        omega
      have hst := runes_step hl
      have hk1 := decL_pos (s.data.toList.drop pos)
      have hk2 := decL_le hl
      rw [List.length_drop, ← Lib.size_eq] at hk2
      rw [List.drop_drop] at hst
      obtain ⟨R, hR⟩ : ∃ R : Nat, (decL (s.data.toList.drop pos)).1 = R := ⟨_, rfl⟩
      obtain ⟨K, hK⟩ : ∃ K : Nat, (decL (s.data.toList.drop pos)).2 = K := ⟨_, rfl⟩
      rw [hR, hK] at hnx hst
      rw [hK] at hk1 hk2
      have HST := Aside0.mk hst
      clear hst hR hK
      obtain ⟨W, hW⟩ : ∃ W, W = wr.iterAt w.heap.size s (pos + K) := ⟨_, rfl⟩
      rw [← hW] at hnx
      have HIT1 := Aside0.mk (show W.heap[w.heap.size]? = some (.stringIter s (pos + K)) by rw [hW]; exact Lib.iterAt_heap wr w.heap.size s pos (pos + K) HIT.out)
      have HB1 := Aside0.mk (show Below w.heap.size w W by rw [hW]; exact Lib.below_iterAt HB.out (Nat.le_refl _) s (pos + K))
      have HO1 := Aside0.mk (show Kd.R (Kd.int .i32) 21 W (w.heap.size + 1) (fun _ => True) u3 acc by
        rw [hW]
        exact Kd.R_mono (Kd.R_move (Kd.R_bound HO.out) (fun k hk => Lib.iterAt_other wr w.heap.size k s (pos + K) (by omega))) (fun _ _ => trivial))
      have hszW : w.heap.size + 1 ≤ W.heap.size := by rw [hW, Lib.iterAt_size]; omega
      have HIP := Aside0.mk (show wr.iterPos w.heap.size = pos by simp only [World.iterPos, HIT.out])
      have HX := Aside0.mk hW
      clear hW HO HIT HB hsz
      have LM := Aside0.mk (show acc.length < 35184372088832 by have := HAL.out; omega)
      go_wp2_with (((with_reducible refine gate_builtin (b := .append) (xs := #[.tmp 11, .tmp 13]) rfl ?_); at_builtin; refine Kd.R_append (Kd.int .i32) (w0 := W) (w.heap.size + 1) rfl (.tmp 11) (.tmp 13) 69 21 (.int .i32 0) 4 rfl Tryd.underlying69 info21 rfl (by decide) (by omega) u3 acc R [.int .i32 R] (fun _ => True) (fun _ => False) rfl rfl ?aP (fun _ hk => hk.elim) ?aF ?aO ?aB ?aS ?aL ?_; (case aP => exact rfl); (case aB => exact Below.refl _ _); (case aF => exact (fun _ _ => trivial)); (case aO => exact HO1.out); (case aS => exact hszW); (case aL => have := LM.out; omega); intro v1 w7 ho hb hg hat; have HO2 := Aside0.mk ho; have HB2 := Aside0.mk hb; clear ho hb hg hat))
      go_roundw
      case rel =>
        refine ⟨pos + K, acc ++ [(R : Int)], ⟨?_⟩, HO2, ⟨?_⟩, ⟨?_⟩, ⟨by omega⟩, ⟨?_⟩⟩
        · rw [HB2.out.block _ (Nat.lt_succ_self _)]; exact HIT1.out
        · rw [List.append_assoc, ← HACC.out, HST.out]; rfl
        · have := HAL.out; rw [List.length_append]; simp; omega
        · exact HB1.out.trans (HB2.out.mono (Nat.le_succ _))
      case measure =>
        have e : w7.iterPos w.heap.size = pos + K := by simp only [World.iterPos, HB2.out.block _ (Nat.lt_succ_self _), HIT1.out]
        rw [e, HIP.out]
        omega
    · have hnx : ∀ ty, (Instr.next (.pointer (some ⟨w.heap.size, 0, none⟩)) true ty).run Tryd.prog wr = _ := fun ty => Lib.run_next_end_at wr w.heap.size s pos ty HIT.out hp
      have hd : s.data.toList.drop pos = [] := List.drop_eq_nil_of_le (by rw [← Lib.size_eq]; omega)
      have HACC' := HACC.out
      rw [hd, runes_nil, List.append_nil] at HACC'
      subst HACC'
      go_wp2
      go_ret
      exact ⟨_, rfl, Kd.R_lower HO.out (Nat.le_succ _), HB.out⟩
end Go.Proofs.YtneanbckmekdkaaDoor.NM

end

section
/- names.Whole: whether all of any text's bytes are of runes. -/
namespace Go.Proofs.YtneanbckmekdkaaDoor.NM
open Go.RowKit Go.Proofs.YtneanbckmekdkaaDoorW.PrintWords Go.Proofs.YtneanbckmekdkaaDoorW.PrintLast Go.Proofs.YtneanbckmekdkaaDoorW.PrintMore Go.Proofs.YtneanbckmekdkaaDoor.PEntryForms
set_option linter.unusedVariables false
theorem extract_data (s : ByteArray) (i j : Nat) : (s.extract i j).data.toList = (s.data.toList.take j).drop i := by
  simp [List.drop_take]
theorem extract_end (s : ByteArray) (i : Nat) : (s.extract i s.size).data.toList = s.data.toList.drop i := by
  rw [extract_data, List.take_of_length_le (by rw [← Lib.size_eq]; exact Nat.le_refl _)]
theorem decodeGo_drop (s : ByteArray) (pos : Nat) (hp : pos < s.size) : Lib.decodeGo (s.extract pos s.size) = decL (s.data.toList.drop pos) := by
  have e : (s.extract pos s.size).size ≠ 0 := by
    rw [Lib.size_eq, extract_end, List.length_drop, ← Lib.size_eq]
    omega
  simp only [Lib.decodeGo, e, if_false]
  rw [decode_drop, extract_end, List.drop_zero]
theorem drop_ne (s : ByteArray) (pos : Nat) (hp : pos < s.size) : s.data.toList.drop pos ≠ [] := by
  intro h
  have := congrArg List.length h
  rw [List.length_drop, ← Lib.size_eq] at this
  simp at this
  omega
set_option maxHeartbeats 4000000 in
set_option maxRecDepth 1000000 in
theorem whole_any (s : ByteArray) (w : World) (hs : s.size ≤ 9223372036854775807) (hT : Lib.Utf8Tabs 1 2 w) :
    Calls Tryd.prog 40 #[.string s] w fun e w' => e = .returned (.bool (whole s.data.toList)) ∧ Below w.heap.size w w' := by
  have HT := Aside0.mk hT
  clear hT
  go_enter Tryd.func40, Tryd.ntmps40
  go_wp2
  go_loopw [] (fun wr => ∃ (pos : Nat), Aside0 (wr.heap[w.heap.size]? = some (.stringIter s pos)) ∧ Aside0 (whole (s.data.toList.drop pos) = whole s.data.toList) ∧ Aside0 (pos ≤ s.size) ∧ Aside0 (Below w.heap.size w wr)) (fun wr => s.size - wr.iterPos w.heap.size)
  case atStart =>
    refine ⟨0, ⟨World.iter_heap w s 0⟩, ⟨by simp⟩, ⟨Nat.zero_le _⟩, ⟨below_alloc (Below.refl _ _) _⟩⟩
  case round =>
    obtain ⟨pos, HIT, HACC, HP, HB⟩ := hrel
    have hsz : w.heap.size < wr.heap.size := (Array.getElem?_eq_some_iff.1 HIT.out).1
    by_cases hp : pos < s.size
    · have hnx : ∀ ty, (Instr.next (.pointer (some ⟨w.heap.size, 0, none⟩)) true ty).run Tryd.prog wr = _ := fun ty => Lib.run_next_any_at wr w.heap.size s pos ty HIT.out hp
      rw [decode_drop] at hnx
      have hl := drop_ne s pos hp
      have hst := whole_step hl
      have hk1 := decL_pos (s.data.toList.drop pos)
      have hk2 := decL_le hl
      have hdg := decodeGo_drop s pos hp
      rw [List.length_drop, ← Lib.size_eq] at hk2
      rw [List.drop_drop] at hst
      unfold stray at hst
      obtain ⟨R, hR⟩ : ∃ R : Nat, (decL (s.data.toList.drop pos)).1 = R := ⟨_, rfl⟩
      obtain ⟨K, hK⟩ : ∃ K : Nat, (decL (s.data.toList.drop pos)).2 = K := ⟨_, rfl⟩
      rw [hR, hK] at hnx hst
      rw [hK] at hk1 hk2
      have HST := Aside0.mk hst
      obtain ⟨W, hW⟩ : ∃ W, W = wr.iterAt w.heap.size s (pos + K) := ⟨_, rfl⟩
      rw [← hW] at hnx
      have HIT1 := Aside0.mk (show W.heap[w.heap.size]? = some (.stringIter s (pos + K)) by rw [hW]; exact Lib.iterAt_heap wr w.heap.size s pos (pos + K) HIT.out)
      have HB1 := Aside0.mk (show Below w.heap.size w W by rw [hW]; exact Lib.below_iterAt HB.out (Nat.le_refl _) s (pos + K))
      have hszW : w.heap.size + 1 ≤ W.heap.size := by rw [hW, Lib.iterAt_size]; omega
      have HIP := Aside0.mk (show wr.iterPos w.heap.size = pos by simp only [World.iterPos, HIT.out])
      have cD := Tryd.utf8_DecodeRuneInString (s.extract pos s.size) W (Utf8Tabs_below HT.out HB1.out)
      rw [hdg, hR, hK] at cD
      clear hst hR hK hW HIT HB hsz hdg
      have b1 : (pos : Int) ≤ (s.size : Int) := by omega
      have b2 : (0 : Int) ≤ (pos : Int) := by omega
      have hc1 : decide ((R : Int) = 65533) = decide (R = 65533) := by congr 1; exact propext ⟨fun h => by omega, fun h => by omega⟩
      have hc2 : decide ((K : Int) = 1) = decide (K = 1) := by congr 1; exact propext ⟨fun h => by omega, fun h => by omega⟩
      go_wp2_with (first | (go_at_call 48; refine cD.mono ?_; rintro e w7 ⟨rfl, hb⟩; have HB2 := Aside0.mk hb; clear hb))
      · have c1 : R = 65533 := by omega
        have c2 : K = 1 := by
          have : (K : Int) = 1 := eq_of_beq (by assumption)
          omega
        have hW := HST.out
        rw [c1, c2] at hW
        simp only [decide_true, Bool.and_self, Bool.not_true, Bool.false_and] at hW
        go_ret
        exact ⟨by rw [← HACC.out, hW]; rfl, HB1.out.trans (HB2.out.mono (by omega))⟩
      all_goals (
        have hW := HST.out
        have c2 : (decide (R = 65533) && decide (K = 1)) = false := by
          first
          | (have : ¬ ((R : Int) = 65533) := by assumption
             simp; omega)
          | (have h1 : ((K : Int) == 1) = false := by assumption
             have h2 : ¬ ((K : Int) = 1) := by intro h; rw [h] at h1; exact absurd h1 (by decide)
             simp; omega)
        rw [c2] at hW
        have HIT2 := HB2.out.block w.heap.size (by omega)
        rw [HIT1.out] at HIT2
        refine ⟨⟨pos + K, ⟨HIT2⟩, ⟨?_⟩, ⟨by omega⟩, ⟨HB1.out.trans (HB2.out.mono (by omega))⟩⟩, ?_⟩
        · rw [← HACC.out, hW]; simp
        · have e : w7.iterPos w.heap.size = pos + K := by simp only [World.iterPos, HIT2]
          rw [e, HIP.out]
          omega)
    · have hnx : ∀ ty, (Instr.next (.pointer (some ⟨w.heap.size, 0, none⟩)) true ty).run Tryd.prog wr = _ := fun ty => Lib.run_next_end_at wr w.heap.size s pos ty HIT.out hp
      have hd : s.data.toList.drop pos = [] := List.drop_eq_nil_of_le (by rw [← Lib.size_eq]; omega)
      have HACC' := HACC.out
      rw [hd, whole_nil] at HACC'
      have HW := Aside0.mk HACC'
      clear HACC'
      go_wp2
      go_ret
      exact ⟨by rw [← HW.out]; rfl, HB.out⟩
end Go.Proofs.YtneanbckmekdkaaDoor.NM

end

section
/- names.Valid: whether any text may be a name. -/
namespace Go.Proofs.YtneanbckmekdkaaDoor.NM
open Go.RowKit Go.Proofs.YtneanbckmekdkaaDoorW.PrintWords Go.Proofs.YtneanbckmekdkaaDoorW.PrintLast Go.Proofs.YtneanbckmekdkaaDoorW.PrintMore Go.Proofs.YtneanbckmekdkaaDoor.PEntryForms
set_option linter.unusedVariables false
set_option maxHeartbeats 4000000 in
set_option maxRecDepth 1000000 in
theorem valid_any (s : ByteArray) (w : World) (hs : s.size ≤ 9223372036854775807) (hT : Lib.Utf8Tabs 1 2 w) :
    Calls Tryd.prog 30 #[.string s] w fun e w' => e = .returned (.bool (valid s.data.toList)) ∧ Below w.heap.size w w' := by
  have HT := Aside0.mk hT
  have cW := Aside0.mk (whole_any s w hs hT)
  clear hT
  obtain ⟨V, hV⟩ : ∃ V, valid s.data.toList = V := ⟨_, rfl⟩
  obtain ⟨Wb, hWb⟩ : ∃ Wb, whole s.data.toList = Wb := ⟨_, rfl⟩
  rw [hV]
  unfold valid at hV
  rw [hWb, ← Lib.size_eq] at hV
  rw [hWb] at cW
  clear hWb
  have ht : s.toList = s.data.toList := Lib.toList_data s
  by_cases c1 : 1 ≤ s.size
  rotate_left
  · have hv : V = false := by rw [← hV, decide_eq_false c1, Bool.false_and]
    clear hV
    have z1 : (s.size : Int) < 1 := by omega
    subst hv
    go_enter Tryd.func30, Tryd.ntmps30
    go_wp2
    go_ret
    exact ⟨rfl, Below.refl _ _⟩
  have z1 : ¬ ((s.size : Int) < 1) := by omega
  have y1 : (1 : Int) ≤ (s.size : Int) := by omega
  rw [decide_eq_true c1, Bool.true_and] at hV
  clear c1
  by_cases c2 : s.size ≤ 24
  rotate_left
  · have hv : V = false := by rw [← hV, decide_eq_false c2, Bool.false_and]
    clear hV
    have z2 : (24 : Int) < (s.size : Int) := by omega
    subst hv
    go_enter Tryd.func30, Tryd.ntmps30
    go_wp2
    go_ret
    exact ⟨rfl, Below.refl _ _⟩
  have z2 : ¬ ((24 : Int) < (s.size : Int)) := by omega
  have y2 : (s.size : Int) ≤ 24 := by omega
  rw [decide_eq_true c2, Bool.true_and] at hV
  clear c2
  cases Wb with
  | false =>
    have hv : V = false := by rw [← hV, Bool.false_and]
    clear hV
    subst hv
    go_enter Tryd.func30, Tryd.ntmps30
    go_wp2_with (first | (go_at_call 40; refine cW.out.mono ?_; rintro e w7 ⟨rfl, hb⟩; have HB2 := Aside0.mk hb; clear hb))
    go_ret
    exact ⟨rfl, HB2.out⟩
  | true =>
    rw [Bool.true_and] at hV
    by_cases c3 : s.data.toList = [46]
    · have hv : V = false := by rw [← hV, decide_eq_false (by simp [c3]), Bool.false_and]
      clear hV
      subst hv
      have z3 : (s.toList == [46]) = true := by rw [ht, c3]; rfl
      have y3 : s.toList = [46] := by rw [ht, c3]
      clear ht
      go_enter Tryd.func30, Tryd.ntmps30
      go_wp2_with (first | (go_at_call 40; refine cW.out.mono ?_; rintro e w7 ⟨rfl, hb⟩; have HB2 := Aside0.mk hb; clear hb))
      go_ret
      exact ⟨rfl, HB2.out⟩
    rw [decide_eq_true c3, Bool.true_and] at hV
    have z3 : (s.toList == [46]) = false := by rw [ht]; exact beq_eq_false_iff_ne.2 c3
    have y3 : ¬ s.toList = [46] := by rw [ht]; exact c3
    by_cases c4 : s.data.toList = [46, 46]
    · have hv : V = false := by rw [← hV, decide_eq_false (by simp [c4]), Bool.false_and]
      clear hV
      subst hv
      have z4 : (s.toList == [46, 46]) = true := by rw [ht, c4]; rfl
      have y4 : s.toList = [46, 46] := by rw [ht, c4]
      clear ht c3
      go_enter Tryd.func30, Tryd.ntmps30
      go_wp2_with (first | (go_at_call 40; refine cW.out.mono ?_; rintro e w7 ⟨rfl, hb⟩; have HB2 := Aside0.mk hb; clear hb))
      go_ret
      exact ⟨rfl, HB2.out⟩
    rw [decide_eq_true c4, Bool.true_and] at hV
    have z4 : (s.toList == [46, 46]) = false := by rw [ht]; exact beq_eq_false_iff_ne.2 c4
    have y4 : ¬ s.toList = [46, 46] := by rw [ht]; exact c4
    have HV := Aside0.mk hV
    clear hV ht c3 c4
    go_enter Tryd.func30, Tryd.ntmps30
    go_wp2_with (first | (go_at_call 40; refine cW.out.mono ?_; rintro e w7 ⟨rfl, hb⟩; have HB2 := Aside0.mk hb; clear hb))
    go_loopw [] (fun wr => ∃ (pos : Nat), Aside0 (wr.heap[w7.heap.size]? = some (.stringIter s pos)) ∧ Aside0 ((runes (s.data.toList.drop pos)).all okRune = V) ∧ Aside0 (pos ≤ s.size) ∧ Aside0 (Below w.heap.size w wr) ∧ Aside0 (Below w7.heap.size w7 wr)) (fun wr => s.size - wr.iterPos w7.heap.size)
    case atStart =>
      refine ⟨0, ⟨World.iter_heap w7 s 0⟩, ⟨by rw [List.drop_zero]; exact HV.out⟩, ⟨Nat.zero_le _⟩, ⟨below_alloc HB2.out _⟩, ⟨below_alloc (Below.refl _ _) _⟩⟩
    case round =>
      obtain ⟨pos, HIT, HACC, HP, HB, HB7⟩ := hrel
      have HSZ := Aside0.mk (show w.heap.size ≤ w7.heap.size from below_size HB2.out)
      by_cases hp : pos < s.size
      · have hnx : ∀ ty, (Instr.next (.pointer (some ⟨w7.heap.size, 0, none⟩)) true ty).run Tryd.prog wr = _ := fun ty => Lib.run_next_any_at wr w7.heap.size s pos ty HIT.out hp
        rw [decode_drop] at hnx
        have hl := drop_ne s pos hp
        have hst := runes_step hl
        have hk1 := decL_pos (s.data.toList.drop pos)
        have hk2 := decL_le hl
        rw [List.length_drop, ← Lib.size_eq] at hk2
        rw [List.drop_drop] at hst
        obtain ⟨R, hR⟩ : ∃ R : Nat, (decL (s.data.toList.drop pos)).1 = R := ⟨_, rfl⟩
        obtain ⟨K, hK⟩ : ∃ K : Nat, (decL (s.data.toList.drop pos)).2 = K := ⟨_, rfl⟩
        rw [hR, hK] at hnx hst
        rw [hK] at hk1 hk2
        have hacc := HACC.out
        rw [hst, List.all_cons] at hacc
        unfold okRune at hacc
        have HA := Aside0.mk hacc
        obtain ⟨W, hW⟩ : ∃ W, W = wr.iterAt w7.heap.size s (pos + K) := ⟨_, rfl⟩
        rw [← hW] at hnx
        have HIT1 := Aside0.mk (show W.heap[w7.heap.size]? = some (.stringIter s (pos + K)) by rw [hW]; exact Lib.iterAt_heap wr w7.heap.size s pos (pos + K) HIT.out)
        have HB1 := Aside0.mk (show Below w.heap.size w W by rw [hW]; exact Lib.below_iterAt HB.out HSZ.out s (pos + K))
        have HB71 := Aside0.mk (show Below w7.heap.size w7 W by rw [hW]; exact Lib.below_iterAt HB7.out (Nat.le_refl _) s (pos + K))
        have HIP := Aside0.mk (show wr.iterPos w7.heap.size = pos by simp only [World.iterPos, HIT.out])
        clear hst hR hK hW HIT HB HB7 hacc
        by_cases r1 : (R : Int) = 47
        · have d1 : decide ((R : Int) = 47) = true := decide_eq_true r1
          have q1 : ((R : Int) == 47) = true := by rw [r1]; rfl
          have hv := HA.out
          rw [d1] at hv
          simp only [Bool.not_true, Bool.false_and] at hv
          subst hv
          go_wp2
          go_ret
          exact ⟨rfl, HB1.out⟩
        have d1 : decide ((R : Int) = 47) = false := decide_eq_false r1
        have q1 : ((R : Int) == 47) = false := beq_eq_false_iff_ne.2 r1
        by_cases r2 : (R : Int) < 32
        · have d2 : decide ((R : Int) < 32) = true := decide_eq_true r2
          have hv := HA.out
          rw [d1, d2] at hv
          simp only [Bool.not_true, Bool.not_false, Bool.and_false, Bool.false_and] at hv
          subst hv
          go_wp2
          go_ret
          exact ⟨rfl, HB1.out⟩
        have d2 : decide ((R : Int) < 32) = false := decide_eq_false r2
        by_cases r3 : (R : Int) = 127
        · have d3 : decide ((R : Int) = 127) = true := decide_eq_true r3
          have q3 : ((R : Int) == 127) = true := by rw [r3]; rfl
          have hv := HA.out
          rw [d1, d2, d3] at hv
          simp only [Bool.not_true, Bool.not_false, Bool.and_false, Bool.false_and] at hv
          subst hv
          go_wp2
          go_ret
          exact ⟨rfl, HB1.out⟩
        have d3 : decide ((R : Int) = 127) = false := decide_eq_false r3
        have q3 : ((R : Int) == 127) = false := beq_eq_false_iff_ne.2 r3
        have hv := HA.out
        rw [d1, d2, d3] at hv
        simp only [Bool.not_false, Bool.and_self, Bool.true_and] at hv
        have HV2 := Aside0.mk hv
        clear hv
        go_wp2
        go_roundw
        case rel =>
          exact ⟨pos + K, HIT1, HV2, ⟨by omega⟩, HB1, HB71⟩
        case measure =>
          have e : W.iterPos w7.heap.size = pos + K := by simp only [World.iterPos, HIT1.out]
          rw [e, HIP.out]
          omega
      · have hnx : ∀ ty, (Instr.next (.pointer (some ⟨w7.heap.size, 0, none⟩)) true ty).run Tryd.prog wr = _ := fun ty => Lib.run_next_end_at wr w7.heap.size s pos ty HIT.out hp
        have hd : s.data.toList.drop pos = [] := List.drop_eq_nil_of_le (by rw [← Lib.size_eq]; omega)
        have HACC' := HACC.out
        rw [hd, runes_nil, List.all_nil] at HACC'
        subst HACC'
        go_wp2
        go_ret
        exact ⟨rfl, HB.out⟩
end Go.Proofs.YtneanbckmekdkaaDoor.NM

end
