/- names.Valid: whether any text may be a name. -/
import Derived.Test.YtneanbckmekdkaaDoorNWhole
namespace Go.Proofs.YtneanbckmekdkaaDoor.NM
open Go.RowKit Go.Proofs.YtneanbckmekdkaaDoorW.PrintWords Go.Proofs.YtneanbckmekdkaaDoorW.PrintLast Go.Proofs.YtneanbckmekdkaaDoorW.PrintMore Go.Proofs.YtneanbckmekdkaaDoor.PEntryForms
set_option linter.unusedVariables false
set_option maxHeartbeats 4000000 in
set_option maxRecDepth 1000000 in
theorem valid_any (s : ByteArray) (w : World) (hs : s.size ≤ 9223372036854775807) (hT : Lib.Utf8Tabs 1 2 w) :
    Calls Tryd.prog 30 #[.string s] w fun e w' => e = .returned (.bool (valid s.data.toList)) ∧ Below w.heap.size w w' := by
  have HT := Aside0.mk hT
  have cW := Aside0.mk (whole_any s w hs hT)
  clear hT
  obtain ⟨V, hV⟩ : ∃ V, valid s.data.toList = V := ⟨_, rfl⟩
  obtain ⟨Wb, hWb⟩ : ∃ Wb, whole s.data.toList = Wb := ⟨_, rfl⟩
  rw [hV]
  unfold valid at hV
  rw [hWb, ← Lib.size_eq] at hV
  rw [hWb] at cW
  clear hWb
  have ht : s.toList = s.data.toList := Lib.toList_data s
  by_cases c1 : 1 ≤ s.size
  rotate_left
  · have hv : V = false := by rw [← hV, decide_eq_false c1, Bool.false_and]
    clear hV
    have z1 : (s.size : Int) < 1 := by omega
    subst hv
    go_enter Tryd.func30, Tryd.ntmps30
    go_wp2
    go_ret
    exact ⟨rfl, Below.refl _ _⟩
  have z1 : ¬ ((s.size : Int) < 1) := by omega
  have y1 : (1 : Int) ≤ (s.size : Int) := by omega
  rw [decide_eq_true c1, Bool.true_and] at hV
  clear c1
  by_cases c2 : s.size ≤ 24
  rotate_left
  · have hv : V = false := by rw [← hV, decide_eq_false c2, Bool.false_and]
    clear hV
    have z2 : (24 : Int) < (s.size : Int) := by omega
    subst hv
    go_enter Tryd.func30, Tryd.ntmps30
    go_wp2
    go_ret
    exact ⟨rfl, Below.refl _ _⟩
  have z2 : ¬ ((24 : Int) < (s.size : Int)) := by omega
  have y2 : (s.size : Int) ≤ 24 := by omega
  rw [decide_eq_true c2, Bool.true_and] at hV
  clear c2
  cases Wb with
  | false =>
    have hv : V = false := by rw [← hV, Bool.false_and]
    clear hV
    subst hv
    go_enter Tryd.func30, Tryd.ntmps30
    go_wp2_with (first | (go_at_call 40; refine cW.out.mono ?_; rintro e w7 ⟨rfl, hb⟩; have HB2 := Aside0.mk hb; clear hb))
    go_ret
    exact ⟨rfl, HB2.out⟩
  | true =>
    rw [Bool.true_and] at hV
    by_cases c3 : s.data.toList = [46]
    · have hv : V = false := by rw [← hV, decide_eq_false (by simp [c3]), Bool.false_and]
      clear hV
      subst hv
      have z3 : (s.toList == [46]) = true := by rw [ht, c3]; rfl
      have y3 : s.toList = [46] := by rw [ht, c3]
      clear ht
      go_enter Tryd.func30, Tryd.ntmps30
      go_wp2_with (first | (go_at_call 40; refine cW.out.mono ?_; rintro e w7 ⟨rfl, hb⟩; have HB2 := Aside0.mk hb; clear hb))
      go_ret
      exact ⟨rfl, HB2.out⟩
    rw [decide_eq_true c3, Bool.true_and] at hV
    have z3 : (s.toList == [46]) = false := by rw [ht]; exact beq_eq_false_iff_ne.2 c3
    have y3 : ¬ s.toList = [46] := by rw [ht]; exact c3
    by_cases c4 : s.data.toList = [46, 46]
    · have hv : V = false := by rw [← hV, decide_eq_false (by simp [c4]), Bool.false_and]
      clear hV
      subst hv
      have z4 : (s.toList == [46, 46]) = true := by rw [ht, c4]; rfl
      have y4 : s.toList = [46, 46] := by rw [ht, c4]
      clear ht c3
      go_enter Tryd.func30, Tryd.ntmps30
      go_wp2_with (first | (go_at_call 40; refine cW.out.mono ?_; rintro e w7 ⟨rfl, hb⟩; have HB2 := Aside0.mk hb; clear hb))
      go_ret
      exact ⟨rfl, HB2.out⟩
    rw [decide_eq_true c4, Bool.true_and] at hV
    have z4 : (s.toList == [46, 46]) = false := by rw [ht]; exact beq_eq_false_iff_ne.2 c4
    have y4 : ¬ s.toList = [46, 46] := by rw [ht]; exact c4
    have HV := Aside0.mk hV
    clear hV ht c3 c4
    go_enter Tryd.func30, Tryd.ntmps30
    go_wp2_with (first | (go_at_call 40; refine cW.out.mono ?_; rintro e w7 ⟨rfl, hb⟩; have HB2 := Aside0.mk hb; clear hb))
    go_loopw [] (fun wr => ∃ (pos : Nat), Aside0 (wr.heap[w7.heap.size]? = some (.stringIter s pos)) ∧ Aside0 ((runes (s.data.toList.drop pos)).all okRune = V) ∧ Aside0 (pos ≤ s.size) ∧ Aside0 (Below w.heap.size w wr) ∧ Aside0 (Below w7.heap.size w7 wr)) (fun wr => s.size - wr.iterPos w7.heap.size)
    case atStart =>
      refine ⟨0, ⟨World.iter_heap w7 s 0⟩, ⟨by rw [List.drop_zero]; exact HV.out⟩, ⟨Nat.zero_le _⟩, ⟨below_alloc HB2.out _⟩, ⟨below_alloc (Below.refl _ _) _⟩⟩
    case round =>
      obtain ⟨pos, HIT, HACC, HP, HB, HB7⟩ := hrel
      have HSZ := Aside0.mk (show w.heap.size ≤ w7.heap.size from below_size HB2.out)
      by_cases hp : pos < s.size
      · have hnx : ∀ ty, (Instr.next (.pointer (some ⟨w7.heap.size, 0, none⟩)) true ty).run Tryd.prog wr = _ := fun ty => Lib.run_next_any_at wr w7.heap.size s pos ty HIT.out hp
        rw [decode_drop] at hnx
        have hl := drop_ne s pos hp
        have hst := runes_step hl
        have hk1 := decL_pos (s.data.toList.drop pos)
        have hk2 := decL_le hl
        rw [List.length_drop, ← Lib.size_eq] at hk2
        rw [List.drop_drop] at hst
        obtain ⟨R, hR⟩ : ∃ R : Nat, (decL (s.data.toList.drop pos)).1 = R := ⟨_, rfl⟩
        obtain ⟨K, hK⟩ : ∃ K : Nat, (decL (s.data.toList.drop pos)).2 = K := ⟨_, rfl⟩
        rw [hR, hK] at hnx hst
        rw [hK] at hk1 hk2
        have hacc := HACC.out
        rw [hst, List.all_cons] at hacc
        unfold okRune at hacc
        have HA := Aside0.mk hacc
        obtain ⟨W, hW⟩ : ∃ W, W = wr.iterAt w7.heap.size s (pos + K) := ⟨_, rfl⟩
        rw [← hW] at hnx
        have HIT1 := Aside0.mk (show W.heap[w7.heap.size]? = some (.stringIter s (pos + K)) by rw [hW]; exact Lib.iterAt_heap wr w7.heap.size s pos (pos + K) HIT.out)
        have HB1 := Aside0.mk (show Below w.heap.size w W by rw [hW]; exact Lib.below_iterAt HB.out HSZ.out s (pos + K))
        have HB71 := Aside0.mk (show Below w7.heap.size w7 W by rw [hW]; exact Lib.below_iterAt HB7.out (Nat.le_refl _) s (pos + K))
        have HIP := Aside0.mk (show wr.iterPos w7.heap.size = pos by simp only [World.iterPos, HIT.out])
        clear hst hR hK hW HIT HB HB7 hacc
        by_cases r1 : (R : Int) = 47
        · have d1 : decide ((R : Int) = 47) = true := decide_eq_true r1
          have q1 : ((R : Int) == 47) = true := by rw [r1]; rfl
          have hv := HA.out
          rw [d1] at hv
          simp only [Bool.not_true, Bool.false_and] at hv
          subst hv
          go_wp2
          go_ret
          exact ⟨rfl, HB1.out⟩
        have d1 : decide ((R : Int) = 47) = false := decide_eq_false r1
        have q1 : ((R : Int) == 47) = false := beq_eq_false_iff_ne.2 r1
        by_cases r2 : (R : Int) < 32
        · have d2 : decide ((R : Int) < 32) = true := decide_eq_true r2
          have hv := HA.out
          rw [d1, d2] at hv
          simp only [Bool.not_true, Bool.not_false, Bool.and_false, Bool.false_and] at hv
          subst hv
          go_wp2
          go_ret
          exact ⟨rfl, HB1.out⟩
        have d2 : decide ((R : Int) < 32) = false := decide_eq_false r2
        by_cases r3 : (R : Int) = 127
        · have d3 : decide ((R : Int) = 127) = true := decide_eq_true r3
          have q3 : ((R : Int) == 127) = true := by rw [r3]; rfl
          have hv := HA.out
          rw [d1, d2, d3] at hv
          simp only [Bool.not_true, Bool.not_false, Bool.and_false, Bool.false_and] at hv
          subst hv
          go_wp2
          go_ret
          exact ⟨rfl, HB1.out⟩
        have d3 : decide ((R : Int) = 127) = false := decide_eq_false r3
        have q3 : ((R : Int) == 127) = false := beq_eq_false_iff_ne.2 r3
        have hv := HA.out
        rw [d1, d2, d3] at hv
        simp only [Bool.not_false, Bool.and_self, Bool.true_and] at hv
        have HV2 := Aside0.mk hv
        clear hv
        go_wp2
        go_roundw
        case rel =>
          exact ⟨pos + K, HIT1, HV2, ⟨by omega⟩, HB1, HB71⟩
        case measure =>
          have e : W.iterPos w7.heap.size = pos + K := by simp only [World.iterPos, HIT1.out]
          rw [e, HIP.out]
          omega
      · have hnx : ∀ ty, (Instr.next (.pointer (some ⟨w7.heap.size, 0, none⟩)) true ty).run Tryd.prog wr = _ := fun ty => Lib.run_next_end_at wr w7.heap.size s pos ty HIT.out hp
        have hd : s.data.toList.drop pos = [] := List.drop_eq_nil_of_le (by rw [← Lib.size_eq]; omega)
        have HACC' := HACC.out
        rw [hd, runes_nil, List.all_nil] at HACC'
        subst HACC'
        go_wp2
        go_ret
        exact ⟨rfl, HB.out⟩
end Go.Proofs.YtneanbckmekdkaaDoor.NM
