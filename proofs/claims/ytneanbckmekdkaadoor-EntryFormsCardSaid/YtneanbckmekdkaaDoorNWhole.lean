/- names.Whole: whether all of any text's bytes are of runes. -/
import Derived.Test.YtneanbckmekdkaaDoorNRunes
import Derived.Test.YtneanbckmekdkaaDoorShelf
namespace Go.Proofs.YtneanbckmekdkaaDoor.NM
open Go.RowKit Go.Proofs.YtneanbckmekdkaaDoorW.PrintWords Go.Proofs.YtneanbckmekdkaaDoorW.PrintLast Go.Proofs.YtneanbckmekdkaaDoorW.PrintMore Go.Proofs.YtneanbckmekdkaaDoor.PEntryForms
set_option linter.unusedVariables false
theorem extract_data (s : ByteArray) (i j : Nat) : (s.extract i j).data.toList = (s.data.toList.take j).drop i := by
  simp [List.drop_take]
theorem extract_end (s : ByteArray) (i : Nat) : (s.extract i s.size).data.toList = s.data.toList.drop i := by
  rw [extract_data, List.take_of_length_le (by rw [← Lib.size_eq]; exact Nat.le_refl _)]
theorem decodeGo_drop (s : ByteArray) (pos : Nat) (hp : pos < s.size) : Lib.decodeGo (s.extract pos s.size) = decL (s.data.toList.drop pos) := by
  have e : (s.extract pos s.size).size ≠ 0 := by
    rw [Lib.size_eq, extract_end, List.length_drop, ← Lib.size_eq]
    omega
  simp only [Lib.decodeGo, e, if_false]
  rw [decode_drop, extract_end, List.drop_zero]
theorem drop_ne (s : ByteArray) (pos : Nat) (hp : pos < s.size) : s.data.toList.drop pos ≠ [] := by
  intro h
  have := congrArg List.length h
  rw [List.length_drop, ← Lib.size_eq] at this
  simp at this
  omega
set_option maxHeartbeats 4000000 in
set_option maxRecDepth 1000000 in
theorem whole_any (s : ByteArray) (w : World) (hs : s.size ≤ 9223372036854775807) (hT : Lib.Utf8Tabs 1 2 w) :
    Calls Tryd.prog 40 #[.string s] w fun e w' => e = .returned (.bool (whole s.data.toList)) ∧ Below w.heap.size w w' := by
  have HT := Aside0.mk hT
  clear hT
  go_enter Tryd.func40, Tryd.ntmps40
  go_wp2
  go_loopw [] (fun wr => ∃ (pos : Nat), Aside0 (wr.heap[w.heap.size]? = some (.stringIter s pos)) ∧ Aside0 (whole (s.data.toList.drop pos) = whole s.data.toList) ∧ Aside0 (pos ≤ s.size) ∧ Aside0 (Below w.heap.size w wr)) (fun wr => s.size - wr.iterPos w.heap.size)
  case atStart =>
    refine ⟨0, ⟨World.iter_heap w s 0⟩, ⟨by simp⟩, ⟨Nat.zero_le _⟩, ⟨below_alloc (Below.refl _ _) _⟩⟩
  case round =>
    obtain ⟨pos, HIT, HACC, HP, HB⟩ := hrel
    have hsz : w.heap.size < wr.heap.size := (Array.getElem?_eq_some_iff.1 HIT.out).1
    by_cases hp : pos < s.size
    · have hnx : ∀ ty, (Instr.next (.pointer (some ⟨w.heap.size, 0, none⟩)) true ty).run Tryd.prog wr = _ := fun ty => Lib.run_next_any_at wr w.heap.size s pos ty HIT.out hp
      rw [decode_drop] at hnx
      have hl := drop_ne s pos hp
      have hst := whole_step hl
      have hk1 := decL_pos (s.data.toList.drop pos)
      have hk2 := decL_le hl
      have hdg := decodeGo_drop s pos hp
      rw [List.length_drop, ← Lib.size_eq] at hk2
      rw [List.drop_drop] at hst
      unfold stray at hst
      obtain ⟨R, hR⟩ : ∃ R : Nat, (decL (s.data.toList.drop pos)).1 = R := ⟨_, rfl⟩
      obtain ⟨K, hK⟩ : ∃ K : Nat, (decL (s.data.toList.drop pos)).2 = K := ⟨_, rfl⟩
      rw [hR, hK] at hnx hst
      rw [hK] at hk1 hk2
      have HST := Aside0.mk hst
      obtain ⟨W, hW⟩ : ∃ W, W = wr.iterAt w.heap.size s (pos + K) := ⟨_, rfl⟩
      rw [← hW] at hnx
      have HIT1 := Aside0.mk (show W.heap[w.heap.size]? = some (.stringIter s (pos + K)) by rw [hW]; exact Lib.iterAt_heap wr w.heap.size s pos (pos + K) HIT.out)
      have HB1 := Aside0.mk (show Below w.heap.size w W by rw [hW]; exact Lib.below_iterAt HB.out (Nat.le_refl _) s (pos + K))
      have hszW : w.heap.size + 1 ≤ W.heap.size := by rw [hW, Lib.iterAt_size]; omega
      have HIP := Aside0.mk (show wr.iterPos w.heap.size = pos by simp only [World.iterPos, HIT.out])
      have cD := Tryd.utf8_DecodeRuneInString (s.extract pos s.size) W (Utf8Tabs_below HT.out HB1.out)
      rw [hdg, hR, hK] at cD
      clear hst hR hK hW HIT HB hsz hdg
      have b1 : (pos : Int) ≤ (s.size : Int) := by omega
      have b2 : (0 : Int) ≤ (pos : Int) := by omega
      have hc1 : decide ((R : Int) = 65533) = decide (R = 65533) := by congr 1; exact propext ⟨fun h => by omega, fun h => by omega⟩
      have hc2 : decide ((K : Int) = 1) = decide (K = 1) := by congr 1; exact propext ⟨fun h => by omega, fun h => by omega⟩
      go_wp2_with (first | (go_at_call 48; refine cD.mono ?_; rintro e w7 ⟨rfl, hb⟩; have HB2 := Aside0.mk hb; clear hb))
      · have c1 : R = 65533 := by omega
        have c2 : K = 1 := by
          have : (K : Int) = 1 := eq_of_beq (by assumption)
          omega
        have hW := HST.out
        rw [c1, c2] at hW
        simp only [decide_true, Bool.and_self, Bool.not_true, Bool.false_and] at hW
        go_ret
        exact ⟨by rw [← HACC.out, hW]; rfl, HB1.out.trans (HB2.out.mono (by omega))⟩
      all_goals (
        have hW := HST.out
        have c2 : (decide (R = 65533) && decide (K = 1)) = false := by
          first
          | (have : ¬ ((R : Int) = 65533) := by assumption
             simp; omega)
          | (have h1 : ((K : Int) == 1) = false := by assumption
             have h2 : ¬ ((K : Int) = 1) := by intro h; rw [h] at h1; exact absurd h1 (by decide)
             simp; omega)
        rw [c2] at hW
        have HIT2 := HB2.out.block w.heap.size (by omega)
        rw [HIT1.out] at HIT2
        refine ⟨⟨pos + K, ⟨HIT2⟩, ⟨?_⟩, ⟨by omega⟩, ⟨HB1.out.trans (HB2.out.mono (by omega))⟩⟩, ?_⟩
        · rw [← HACC.out, hW]; simp
        · have e : w7.iterPos w.heap.size = pos + K := by simp only [World.iterPos, HIT2]
          rw [e, HIP.out]
          omega)
    · have hnx : ∀ ty, (Instr.next (.pointer (some ⟨w.heap.size, 0, none⟩)) true ty).run Tryd.prog wr = _ := fun ty => Lib.run_next_end_at wr w.heap.size s pos ty HIT.out hp
      have hd : s.data.toList.drop pos = [] := List.drop_eq_nil_of_le (by rw [← Lib.size_eq]; omega)
      have HACC' := HACC.out
      rw [hd, whole_nil] at HACC'
      have HW := Aside0.mk HACC'
      clear HACC'
      go_wp2
      go_ret
      exact ⟨by rw [← HW.out]; rfl, HB.out⟩
end Go.Proofs.YtneanbckmekdkaaDoor.NM
