/- names.Runes: any text's runes. -/
import Derived.Test.YtneanbckmekdkaaDoorPEntryFormsx4
import Derived.Test.YtneanbckmekdkaaDoorNMath
import Derived.Lib.OthersKept
import Derived.LoopTactic
namespace Go.Proofs.YtneanbckmekdkaaDoor.NM
open Go.RowKit Go.Proofs.YtneanbckmekdkaaDoorW.PrintWords Go.Proofs.YtneanbckmekdkaaDoorW.PrintLast Go.Proofs.YtneanbckmekdkaaDoorW.PrintMore Go.Proofs.YtneanbckmekdkaaDoor.PEntryForms
set_option linter.unusedVariables false
set_option maxHeartbeats 4000000 in
set_option maxRecDepth 1000000 in
theorem runes_any (s : ByteArray) (w : World) (hs : s.size ≤ 17592186044416) :
    Calls Tryd.prog 42 #[.string s] w fun e w' => ∃ v, e = .returned v ∧ Kd.R (Kd.int .i32) 21 w' w.heap.size (fun _ => True) v (runes s.data.toList) ∧ Below w.heap.size w w' := by
  go_enter Tryd.func42, Tryd.ntmps42
  go_wp2
  go_loopw [3] (fun v3 wr => ∃ (pos : Nat) (acc : List Int), Aside0 (wr.heap[w.heap.size]? = some (.stringIter s pos)) ∧ Aside0 (Kd.R (Kd.int .i32) 21 wr (w.heap.size + 1) (fun _ => True) v3 acc) ∧ Aside0 (acc ++ runes (s.data.toList.drop pos) = runes s.data.toList) ∧ Aside0 (acc.length ≤ pos) ∧ Aside0 (pos ≤ s.size) ∧ Aside0 (Below w.heap.size w wr)) (fun _ wr => s.size - wr.iterPos w.heap.size)
  case atStart =>
    refine ⟨0, [], ⟨World.iter_heap w s 0⟩, ⟨Kd.R_nil _ _ _ _ _⟩, ⟨by simp⟩, ⟨Nat.le_refl _⟩, ⟨Nat.zero_le _⟩, ⟨below_alloc (Below.refl _ _) _⟩⟩
  case round =>
    obtain ⟨pos, acc, HIT, HO, HACC, HAL, HP, HB⟩ := hrel
    have hsz : w.heap.size < wr.heap.size := (Array.getElem?_eq_some_iff.1 HIT.out).1
    by_cases hp : pos < s.size
    · have hnx : ∀ ty, (Instr.next (.pointer (some ⟨w.heap.size, 0, none⟩)) true ty).run Tryd.prog wr = _ := fun ty => Lib.run_next_any_at wr w.heap.size s pos ty HIT.out hp
      rw [decode_drop] at hnx
      have hl : s.data.toList.drop pos ≠ [] := by
        intro h
        have := congrArg List.length h
        rw [List.length_drop, ← Lib.size_eq] at this
        simp at this
        omega
      have hst := runes_step hl
      have hk1 := decL_pos (s.data.toList.drop pos)
      have hk2 := decL_le hl
      rw [List.length_drop, ← Lib.size_eq] at hk2
      rw [List.drop_drop] at hst
      obtain ⟨R, hR⟩ : ∃ R : Nat, (decL (s.data.toList.drop pos)).1 = R := ⟨_, rfl⟩
      obtain ⟨K, hK⟩ : ∃ K : Nat, (decL (s.data.toList.drop pos)).2 = K := ⟨_, rfl⟩
      rw [hR, hK] at hnx hst
      rw [hK] at hk1 hk2
      have HST := Aside0.mk hst
      clear hst hR hK
      obtain ⟨W, hW⟩ : ∃ W, W = wr.iterAt w.heap.size s (pos + K) := ⟨_, rfl⟩
      rw [← hW] at hnx
      have HIT1 := Aside0.mk (show W.heap[w.heap.size]? = some (.stringIter s (pos + K)) by rw [hW]; exact Lib.iterAt_heap wr w.heap.size s pos (pos + K) HIT.out)
      have HB1 := Aside0.mk (show Below w.heap.size w W by rw [hW]; exact Lib.below_iterAt HB.out (Nat.le_refl _) s (pos + K))
      have HO1 := Aside0.mk (show Kd.R (Kd.int .i32) 21 W (w.heap.size + 1) (fun _ => True) u3 acc by
        rw [hW]
        exact Kd.R_mono (Kd.R_move (Kd.R_bound HO.out) (fun k hk => Lib.iterAt_other wr w.heap.size k s (pos + K) (by omega))) (fun _ _ => trivial))
      have hszW : w.heap.size + 1 ≤ W.heap.size := by rw [hW, Lib.iterAt_size]; omega
      have HIP := Aside0.mk (show wr.iterPos w.heap.size = pos by simp only [World.iterPos, HIT.out])
      have HX := Aside0.mk hW
      clear hW HO HIT HB hsz
      have LM := Aside0.mk (show acc.length < 35184372088832 by have := HAL.out; omega)
      go_wp2_with (((with_reducible refine gate_builtin (b := .append) (xs := #[.tmp 11, .tmp 13]) rfl ?_); at_builtin; refine Kd.R_append (Kd.int .i32) (w0 := W) (w.heap.size + 1) rfl (.tmp 11) (.tmp 13) 69 21 (.int .i32 0) 4 rfl Tryd.underlying69 info21 rfl (by decide) (by omega) u3 acc R [.int .i32 R] (fun _ => True) (fun _ => False) rfl rfl ?aP (fun _ hk => hk.elim) ?aF ?aO ?aB ?aS ?aL ?_; (case aP => exact rfl); (case aB => exact Below.refl _ _); (case aF => exact (fun _ _ => trivial)); (case aO => exact HO1.out); (case aS => exact hszW); (case aL => have := LM.out; omega); intro v1 w7 ho hb hg hat; have HO2 := Aside0.mk ho; have HB2 := Aside0.mk hb; clear ho hb hg hat))
      go_roundw
      case rel =>
        refine ⟨pos + K, acc ++ [(R : Int)], ⟨?_⟩, HO2, ⟨?_⟩, ⟨?_⟩, ⟨by omega⟩, ⟨?_⟩⟩
        · rw [HB2.out.block _ (Nat.lt_succ_self _)]; exact HIT1.out
        · rw [List.append_assoc, ← HACC.out, HST.out]; rfl
        · have := HAL.out; rw [List.length_append]; simp; omega
        · exact HB1.out.trans (HB2.out.mono (Nat.le_succ _))
      case measure =>
        have e : w7.iterPos w.heap.size = pos + K := by simp only [World.iterPos, HB2.out.block _ (Nat.lt_succ_self _), HIT1.out]
        rw [e, HIP.out]
        omega
    · have hnx : ∀ ty, (Instr.next (.pointer (some ⟨w.heap.size, 0, none⟩)) true ty).run Tryd.prog wr = _ := fun ty => Lib.run_next_end_at wr w.heap.size s pos ty HIT.out hp
      have hd : s.data.toList.drop pos = [] := List.drop_eq_nil_of_le (by rw [← Lib.size_eq]; omega)
      have HACC' := HACC.out
      rw [hd, runes_nil, List.append_nil] at HACC'
      subst HACC'
      go_wp2
      go_ret
      exact ⟨_, rfl, Kd.R_lower HO.out (Nat.le_succ _), HB.out⟩
end Go.Proofs.YtneanbckmekdkaaDoor.NM
