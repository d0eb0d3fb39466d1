/- The document's look: meet in one contract; all. -/
import Derived.Test.YtgiapegacbibeaaURMeet
namespace Go.Proofs.Ytgiapegacbibeaa.UM
open Go.RowKit Go.Proofs.YtgiapegacbibeaaX Go.Proofs.YtgiapegacbibeaaW.PrintWords
set_option linter.unusedVariables false
def RPost (w : World) (gl gv n B : Nat) (K N S : Int) (sv : Value) : Option (List Int × List Int) → Ending → World → Prop
  | none, e, w' => e = .returned (.int .i64 5) ∧ Kp w w' (SS gl gv sv)
  | some (l', v'), e, w' => e = .returned (.int .i64 0) ∧ ∃ sv', RL w' gl gv n B K N S sv' l'.reverse v' ∧ Kp w w' (SS gl gv sv) ∧ OwnB w sv sv'
theorem OwnB.refl (w : World) (sv : Value) : OwnB w sv sv := Or.inl rfl
theorem OwnB.trans {w W : World} {sv s1 s2 : Value} (h : OwnB w sv s1) (k : OwnB W s1 s2) (hs : w.heap.size ≤ W.heap.size) : OwnB w sv s2 := by
  rcases k with k | ⟨b, k1, k2⟩
  · rcases h with h | ⟨b, h1, h2⟩
    · exact Or.inl (k.trans h)
    · exact Or.inr ⟨b, k.trans h1, h2⟩
  · exact Or.inr ⟨b, k1, Nat.le_trans hs k2⟩
theorem SS.turn {w : World} {gl gv k : Nat} {sv s1 : Value} (h : OwnB w sv s1) (hk : SS gl gv s1 k) : SS gl gv sv k ∨ w.heap.size ≤ k := by
  rcases hk with hk | hk | hk
  · exact .inl (SS.gl gv sv hk)
  · exact .inl (SS.gv gl sv hk)
  · rcases h with h | ⟨b, h1, h2⟩
    · exact .inl (SS.own gl gv (h.symm.trans hk))
    · rw [h1] at hk
      cases hk
      exact .inr h2
theorem rmeet_any (w : World) (gl gv n B : Nat) (K N S : Int) (sv : Value) (l v : List Int) (a : Int) (hL : RL w gl gv n B K N S sv l.reverse v) (hK : 1 ≤ K ∧ K ≤ 255) (hS : 1 ≤ S ∧ S ≤ 128) (ha : 0 ≤ a ∧ a < 4294967296)
    (hn : (n : Int) = S) (hi : Inv n l v) (hl : l.length ≤ 1000000) :
    Calls Try.prog 32 #[.pointer (some ⟨gl, 0, none⟩), .int .u32 a] w (RPost w gl gv n B K N S sv (meetN K S a l v)) := by
  unfold meetN
  by_cases h1 : 1 ≤ a ∧ a ≤ 4 * K * S
  rotate_left
  · rw [if_neg (fun h => h1 h.1)]
    exact (rmeet_bad w gl gv n B K N S sv _ v a hL ha _ _ _ (place_no K N S a hK hS ha h1) (by decide)).mono fun e w' h => ⟨h.1, Kp.of_below h.2 _⟩
  obtain ⟨p1, p2, p3, p4⟩ := place_in hK hS h1
  have hP := place_yes K N S a hK hS h1
  by_cases h2 : (4 * K + 14) / 15 ≤ (a - 1) % (4 * K)
  rotate_left
  · rw [if_neg (fun h => h2 h.2.1)]
    exact (rmeet_sum w gl gv n B K N S sv _ v a hL ha _ _ hP hK ⟨p3, by omega⟩ (by omega)).mono fun e w' h => ⟨h.1, Kp.of_below h.2 _⟩
  obtain ⟨s, hs⟩ : ∃ s : Nat, (a - 1) / (4 * K) = (s : Int) := ⟨((a - 1) / (4 * K)).toNat, by omega⟩
  rw [hs] at hP p1 p2 ⊢
  rw [Int.toNat_natCast]
  have hsn : s < n := by omega
  have hy := hi.2 s
  refine (rmeet_scan w gl gv n B K N S sv l.reverse v a hL ha s _ _ hP hK ⟨p3, by omega⟩ (by omega) hsn (by omega) hi.1 rfl ⟨hy.1, by omega⟩ (by rw [List.length_reverse]; exact hl)).mono fun e w' h => ?_
  by_cases h3 : a ∈ l
  · rw [if_neg (fun h => h.2.2 h3)]
    obtain ⟨e1, e2⟩ := h.1 (List.mem_reverse.2 h3)
    exact ⟨e1, Kp.of_below e2 _⟩
  · rw [if_pos ⟨h1, h2, h3⟩]
    obtain ⟨e1, sv', e2, e3, e4⟩ := h.2 (fun h => h3 (List.mem_reverse.1 h))
    exact ⟨e1, sv', by rw [List.reverse_cons]; exact e2, e3, e4⟩
set_option maxHeartbeats 2000000 in
set_option maxRecDepth 100000 in
theorem rall_any (w : World) (gl gv n B : Nat) (K N S : Int) (sv : Value) (l v : List Int) (A : Option Addr) (m c : Nat) (r : List Int) (hL : RL w gl gv n B K N S sv l.reverse v) (hK : 1 ≤ K ∧ K ≤ 255) (hS : 1 ≤ S ∧ S ≤ 128)
    (hn : (n : Int) = S) (hi : Inv n l v) (hr : ReadsInt w .u32 A m r) (hd : ∀ ad, A = some ad → 0 < m → ¬ SS gl gv sv ad.block) (hre : ∀ x ∈ r, 0 ≤ x ∧ x < 4294967296) (hl : l.length + r.length ≤ 1000000) :
    Calls Try.prog 34 #[.pointer (some ⟨gl, 0, none⟩), .slice A m c] w (RPost w gl gv n B K N S sv (allN K S r l v)) := by
  obtain ⟨R, hR⟩ : ∃ R, allN K S r l v = R := ⟨_, rfl⟩
  rw [hR]
  obtain rfl : r.length = m := hr.1
  have HR := Aside0.mk hr
  have HRE := Aside0.mk hre
  have HNE := Aside0.mk hd
  have HL := Aside0.mk hL
  have HK := Aside0.mk hK
  have HS := Aside0.mk hS
  have HN := Aside0.mk hn
  have HI := Aside0.mk hi
  have HLL := Aside0.mk hl
  have HQ := Aside0.mk hR
  have hm := hr.2.1
  clear hr hre hL hK hS hn hi hl hR hd
  go_enter Try.func34, Try.ntmps34
  go_wp2
  go_loopw [5] (fun i wr => ∃ j : Nat, j ≤ r.length ∧ i = .int .i64 j ∧ ∃ l1 v1 s1, Aside0 (RL wr gl gv n B K N S s1 l1.reverse v1) ∧ Aside0 (Kp w wr (SS gl gv sv)) ∧ Aside0 (OwnB w sv s1) ∧ Aside0 (allN K S (r.drop j) l1 v1 = R) ∧ Aside0 (Inv n l1 v1 ∧ l1.length ≤ l.length + j)) (fun i _ => r.length - (intOf i).toNat)
  case atStart => exact ⟨0, Nat.zero_le _, rfl, l, v, sv, HL, ⟨Kp.refl _ _⟩, ⟨OwnB.refl _ _⟩, HQ, ⟨HI.out, Nat.le_add_right _ _⟩⟩
  case round =>
    obtain ⟨j, hj, rfl, l1, v1, s1, H1, H2, H5, H3, H4⟩ := hrel
    by_cases hlt : j < r.length
    · have hlt' : (j : Int) < (r.length : Int) := by omega
      have hj0 : (0 : Int) ≤ (j : Int) := Int.natCast_nonneg _
      obtain ⟨ad, rfl, hc⟩ := HR.out.2.2 (by omega)
      have hne := HNE.out ad rfl (Nat.zero_lt_of_lt hlt)
      have hab : (ad.add j).block = ad.block := by unfold Addr.add; split <;> rfl
      have c0 := Go.Proofs.YtgiapegacbibeaaW.PrintWords.cell_kept (hc j hlt) H2.out.k (fun h => hne (by rw [hab] at h; exact h))
      have hst := all_step (K := K) (S := S) (l := l1) (v := v1) hlt
      have hra : 0 ≤ r.getD j 0 ∧ r.getD j 0 < 4294967296 := by rw [List.getD_eq_getElem?_getD, List.getElem?_eq_getElem hlt]; exact HRE.out _ (List.getElem_mem _)
      obtain ⟨a, ha⟩ : ∃ a, r.getD j 0 = a := ⟨_, rfl⟩
      rw [ha] at c0 hst hra
      rw [H3.out] at hst
      clear hc hne ha hab
      by_cases h0 : a = 0
      · subst h0
        rw [if_pos rfl] at hst
        have HST := Aside0.mk hst.symm
        clear hst hra
        go_wp2
        go_roundw
        case rel => exact ⟨j + 1, by omega, by go_num, l1, v1, s1, H1, H2, H5, HST, ⟨H4.out.1, by have := H4.out.2; omega⟩⟩
        case measure => simp [intOf]; omega
      · have h0b : (a != 0) = true := bne_iff_ne.2 h0
        rw [if_neg h0] at hst
        have HRA := Aside0.mk hra
        clear hra h0
        have hcl := rmeet_any wr gl gv n B K N S s1 l1 v1 a H1.out HK.out HS.out HRA.out HN.out H4.out.1 (by have h4 := H4.out.2; have h5 := HLL.out; omega)
        cases hm1 : meetN K S a l1 v1 with
        | none =>
          rw [hm1] at hst hcl
          obtain rfl : R = none := hst
          have HCL := Aside0.mk hcl
          clear hm1 hcl
          go_wp2_with (first | (go_at_call 32; refine HCL.out.mono ?_; rintro e w1 ⟨rfl, hk⟩; have HK1 := Aside0.mk (H2.out.then_ hk (fun _ h => SS.turn H5.out h)); clear hk))
          go_ret
          exact ⟨rfl, HK1.out⟩
        | some p =>
          obtain ⟨l2, v2⟩ := p
          rw [hm1] at hst hcl
          have HCL := Aside0.mk hcl
          have HST := Aside0.mk hst.symm
          have HI2 := Aside0.mk (meet_inv H4.out.1 hm1)
          clear hst hm1 hcl
          go_wp2_with (first | (go_at_call 32; refine HCL.out.mono ?_; rintro e w1 ⟨rfl, s2, hl1, hk, ho⟩; have HK1 := Aside0.mk (H2.out.then_ hk (fun _ h => SS.turn H5.out h)); have HL1 := Aside0.mk hl1; have HO1 := Aside0.mk (H5.out.trans ho H2.out.size); clear hk hl1 ho))
          go_roundw
          case rel => exact ⟨j + 1, by omega, by go_num, l2, v2, s2, HL1, HK1, HO1, HST, ⟨HI2.out.1, by have h1 := HI2.out.2; have h2 := H4.out.2; omega⟩⟩
          case measure => simp [intOf]; omega
    · obtain rfl : j = r.length := by omega
      have h3 := H3.out
      rw [List.drop_of_length_le (Nat.le_refl _)] at h3
      obtain rfl : R = some (l1, v1) := h3.symm
      clear hlt hj h3
      go_wp2
      go_ret
      exact ⟨rfl, s1, H1.out, H2.out, H5.out⟩
end Go.Proofs.Ytgiapegacbibeaa.UM
