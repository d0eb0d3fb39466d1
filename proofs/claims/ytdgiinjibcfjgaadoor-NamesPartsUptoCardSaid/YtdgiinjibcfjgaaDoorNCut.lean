/- names.Cut: any text's beginning. -/
import Derived.Test.YtdgiinjibcfjgaaDoorNWhole
namespace Go.Proofs.YtdgiinjibcfjgaaDoor.NM
open Go.RowKit Go.Proofs.YtdgiinjibcfjgaaDoorW.PrintWords Go.Proofs.YtdgiinjibcfjgaaDoorW.PrintLast Go.Proofs.YtdgiinjibcfjgaaDoorW.PrintMore Go.Proofs.YtdgiinjibcfjgaaDoor.PNamesValid
set_option linter.unusedVariables false
theorem cut_neg (l : List UInt8) (n : Int) (h : n < 0) : cutN l n = 0 := by
  by_cases hl : l = []
  · rw [hl]; rfl
  · rw [cut_step hl, if_neg (by omega)]
theorem extract_zero (s : ByteArray) (k : Nat) : s.extract 0 k = ⟨(s.data.toList.take k).toArray⟩ := by
  apply ByteArray.ext
  apply Array.ext'
  simp
set_option maxHeartbeats 4000000 in
set_option maxRecDepth 1000000 in
theorem cut_any (s : ByteArray) (n : Int) (w : World) (hs : s.size ≤ 9223372036854775807) :
    Calls Tryd.prog 20 #[.string s, .int .i64 n] w fun e w' => e = .returned (.string (s.extract 0 (cutN s.data.toList n))) ∧ Below w.heap.size w w' := by
  by_cases hn : n ≥ (s.size : Int)
  · have hn' : decide (n ≥ (s.size : Int)) = true := decide_eq_true hn
    have hn2 : (s.size : Int) ≤ n := hn
    have e : s.extract 0 (cutN s.data.toList n) = s := by
      rw [cut_all _ _ (by rw [← Lib.size_eq]; exact hn), ← Lib.size_eq, ByteArray.extract_zero_size]
    have HE := Aside0.mk e
    clear e
    go_enter Tryd.func20, Tryd.ntmps20
    go_wp2
    go_ret
    exact ⟨by rw [HE.out]; rfl, Below.refl _ _⟩
  · have hn' : ¬ ((s.size : Int) ≤ n) := hn
    have hn2 : ¬ (n ≥ (s.size : Int)) := hn
    have hn3 : n < (s.size : Int) := by omega
    obtain ⟨C, hC⟩ : ∃ C : Nat, cutN s.data.toList n = C := ⟨_, rfl⟩
    have HC := Aside0.mk hC
    rw [hC]
    clear hC
    have HCB := Aside0.mk (show C ≤ s.size by have := (cut_bound s.data.toList n).1; rw [HC.out, ← Lib.size_eq] at this; exact this)
    go_enter Tryd.func20, Tryd.ntmps20
    go_wp2
    go_loopw [5] (fun v5 wr => ∃ (pos e : Nat), v5 = .int .i64 e ∧ Aside0 (wr.heap[w.heap.size]? = some (.stringIter s pos)) ∧ Aside0 ((pos : Int) ≤ n → pos + cutN (s.data.toList.drop pos) (n - pos) = C) ∧ Aside0 (n < (pos : Int) → e = C) ∧ Aside0 (pos ≤ s.size) ∧ Aside0 (e ≤ pos) ∧ Aside0 (Below w.heap.size w wr)) (fun _ wr => s.size - wr.iterPos w.heap.size)
    case atStart =>
      refine ⟨0, 0, rfl, ⟨World.iter_heap w s 0⟩, ⟨fun _ => ?_⟩, ⟨fun h => ?_⟩, ⟨Nat.zero_le _⟩, ⟨Nat.le_refl _⟩, ⟨below_alloc (Below.refl _ _) _⟩⟩
      · simpa using HC.out
      · rw [← HC.out, cut_neg _ _ (by omega)]
    case round =>
      obtain ⟨pos, e, rfl, HIT, HACC, HAFT, HP, HE, HB⟩ := hrel
      have hsz : w.heap.size < wr.heap.size := (Array.getElem?_eq_some_iff.1 HIT.out).1
      by_cases hp : pos < s.size
      · have hnx : ∀ ty, (Instr.next (.pointer (some ⟨w.heap.size, 0, none⟩)) true ty).run Tryd.prog wr = _ := fun ty => Lib.run_next_any_at wr w.heap.size s pos ty HIT.out hp
        rw [decode_drop] at hnx
        have hl := drop_ne s pos hp
        have hst := cut_step hl (n - pos)
        have hk1 := decL_pos (s.data.toList.drop pos)
        have hk2 := decL_le hl
        rw [List.length_drop, ← Lib.size_eq] at hk2
        rw [List.drop_drop] at hst
        obtain ⟨R, hR⟩ : ∃ R : Nat, (decL (s.data.toList.drop pos)).1 = R := ⟨_, rfl⟩
        obtain ⟨K, hK⟩ : ∃ K : Nat, (decL (s.data.toList.drop pos)).2 = K := ⟨_, rfl⟩
        rw [hR, hK] at hnx
        rw [hK] at hst
        rw [hK] at hk1 hk2
        have HST := Aside0.mk hst
        obtain ⟨W, hW⟩ : ∃ W, W = wr.iterAt w.heap.size s (pos + K) := ⟨_, rfl⟩
        rw [← hW] at hnx
        have HIT1 := Aside0.mk (show W.heap[w.heap.size]? = some (.stringIter s (pos + K)) by rw [hW]; exact Lib.iterAt_heap wr w.heap.size s pos (pos + K) HIT.out)
        have HB1 := Aside0.mk (show Below w.heap.size w W by rw [hW]; exact Lib.below_iterAt HB.out (Nat.le_refl _) s (pos + K))
        have HIP := Aside0.mk (show wr.iterPos w.heap.size = pos by simp only [World.iterPos, HIT.out])
        clear hst hR hK hW HIT HB hsz
        by_cases hpn : (pos : Int) ≤ n
        · go_wp2
          go_roundw
          case rel =>
            refine ⟨pos + K, pos, rfl, HIT1, ⟨fun h => ?_⟩, ⟨fun h => ?_⟩, ⟨by omega⟩, ⟨by omega⟩, HB1⟩
            · have h1 := HACC.out hpn
              rw [HST.out, if_pos (by push_cast at h; omega)] at h1
              rw [show n - ((pos + K : Nat) : Int) = n - pos - K by push_cast; omega]
              omega
            · have h1 := HACC.out hpn
              rw [HST.out, if_neg (by push_cast at h; omega)] at h1
              omega
          case measure =>
            have e : W.iterPos w.heap.size = pos + K := by simp only [World.iterPos, HIT1.out]
            rw [e, HIP.out]
            omega
        · go_wp2
          go_roundw
          case rel =>
            refine ⟨pos + K, e, rfl, HIT1, ⟨fun h => ?_⟩, ⟨fun h => HAFT.out (by omega)⟩, ⟨by omega⟩, ⟨by have := HE.out; omega⟩, HB1⟩
            push_cast at h
            omega
          case measure =>
            have e : W.iterPos w.heap.size = pos + K := by simp only [World.iterPos, HIT1.out]
            rw [e, HIP.out]
            omega
      · have hnx : ∀ ty, (Instr.next (.pointer (some ⟨w.heap.size, 0, none⟩)) true ty).run Tryd.prog wr = _ := fun ty => Lib.run_next_end_at wr w.heap.size s pos ty HIT.out hp
        have he : e = C := HAFT.out (by omega)
        subst he
        have b1 : (e : Int) ≤ (s.size : Int) := by have := HCB.out; omega
        have b2 : (0 : Int) ≤ (e : Int) := by omega
        go_wp2
        go_ret
        exact ⟨rfl, HB.out⟩
end Go.Proofs.YtdgiinjibcfjgaaDoor.NM
