/- usage.look.inode: one contract. -/
import Derived.Test.YtgiapegacbibeaaUInoW
namespace Go.Proofs.Ytgiapegacbibeaa.UM
open Go.RowKit Go.Proofs.YtgiapegacbibeaaX Go.Proofs.YtgiapegacbibeaaW.PrintWords
set_option linter.unusedVariables false
theorem takeR_len {L : List Int} (h : (takeR L).2 = 0) : L.length = 112 := by
  unfold takeR at h
  split at h
  · cases h
  · split at h
    · cases h
    · omega
theorem ino_inv {K S : Int} {bl : List (List Int)} {ino a : Int} {n : Nat} {l v l' v' : List Int} (hi : Inv n l v) (h : inoN K S bl ino a l v = (0, l', v')) : Inv n l' v' ∧ l'.length ≤ l.length + 36 := by
  unfold inoN at h
  split at h
  · cases h
  · rename_i l1 v1 hm
    obtain ⟨i1, e1⟩ := meet_inv hi hm
    split at h
    · rename_i hx
      exact absurd (congrArg Prod.fst h) hx
    · split at h
      · cases h
      · rename_i i s ds p ht
        have hds : ds.length ≤ 7 := by
          unfold tk at ht
          split at ht
          · cases ht; exact List.length_filter_le _ _
          · cases ht
        split at h
        · cases h
        · split at h
          · cases h
          · rename_i l2 v2 ha
            obtain ⟨i2, e2⟩ := all_inv ds i1 ha
            split at h
            · cases h; exact ⟨i2, by omega⟩
            · split at h
              · rename_i hx
                exact absurd (congrArg Prod.fst h) hx
              · split at h
                · cases h
                · split at h
                  · cases h
                  · rename_i l3 v3 ha3
                    obtain ⟨i3, e3⟩ := all_inv _ i2 ha3
                    cases h
                    refine ⟨i3, ?_⟩
                    have : ((words (rdN bl p).1).take (blk s - 6).toNat).length ≤ 28 := by rw [List.length_take, words_length]; omega
                    omega
set_option maxHeartbeats 1000000 in
theorem ino_any (w : World) (gl gm gv n : Nat) (K N S : Int) (l v : List Int) (B : Nat) (SA : Option Addr) (cs : Nat) (bl : List (List Int)) (ino a : Int) (hC : IC w gl gm gv n K N S l v B SA cs bl a) :
    Calls Try.prog 21 #[.pointer (some ⟨gl, 0, none⟩), .int .i64 ino, .int .u32 a] w (IPost gl gm gv n K N S (.func (.func 14) #[.agg #[.slice SA bl.length cs]] #[]) w (inoN K S bl ino a l v)) := by
  have H5 : (5 : Int) = 0 → False := by decide
  unfold inoN
  cases hm : meetN K S a l v with
  | none => exact (ino_1 w gl gm gv n K N S l v B SA cs bl ino a ⟨hC⟩ ⟨hm⟩).mono fun e w' h => ⟨h.1, fun h0 => absurd h0 (by decide), h.2⟩
  | some p1 =>
    obtain ⟨l1, v1⟩ := p1
    have hby := rd_mem (bl := bl) (a := a) (P := fun b => ∀ x ∈ b, 0 ≤ x ∧ x < 256) (by simp) hC.fy
    obtain ⟨b, x, hx⟩ : ∃ b x, rdN bl a = (b, x) := ⟨_, _, rfl⟩
    rw [hx] at hby
    simp only [hx]
    by_cases hx0 : x = 0
    rotate_left
    · rw [if_pos hx0]
      exact (ino_2 w gl gm gv n K N S l v B SA cs bl ino a ⟨hC⟩ l1 v1 ⟨hm⟩ b x ⟨hx⟩ (bne_iff_ne.2 hx0) hx0).mono fun e w' h => ⟨h.1, fun h0 => absurd h0 hx0, h.2⟩
    · subst hx0
      rw [if_neg (by simp)]
      have hby' : ∀ x ∈ b, 0 ≤ x ∧ x < 256 := hby
      unfold tk
      by_cases ht : (takeR b).2 = 0
      rotate_left
      · obtain ⟨fe, hfe, hT⟩ := takeR_no ht
        rw [if_neg ht]
        exact (ino_3 w gl gm gv n K N S l v B SA cs bl ino a ⟨hC⟩ l1 v1 ⟨hm⟩ b ⟨hx⟩ ⟨hby'⟩ 0 0 0 0 0 0 0 0 0 0 0 fe ⟨hT⟩ (bne_iff_ne.2 hfe) hfe).mono fun e w' h => ⟨h.1, fun h0 => absurd h0 (by decide), h.2⟩
      · obtain ⟨hT, hM⟩ := takeR_yes ht
        rw [if_pos ht]
        have hs2 : accN (b.drop 4) 2 ≤ 9223372036854775807 := accN2_small (fun x hx => hby' x (List.mem_of_mem_drop hx))
        obtain ⟨fa, h_fa⟩ : ∃ z, accN b 2 = z := ⟨_, rfl⟩
        obtain ⟨fk, h_fk⟩ : ∃ z, accN (b.drop 2) 1 = z := ⟨_, rfl⟩
        obtain ⟨fs, h_fs⟩ : ∃ z, accN (b.drop 4) 2 = z := ⟨_, rfl⟩
        obtain ⟨fl, h_fl⟩ : ∃ z, accN (b.drop 3) 1 = z := ⟨_, rfl⟩
        obtain ⟨f0, h_f0⟩ : ∃ z, accN (b.drop 6) 4 % 4294967296 = z := ⟨_, rfl⟩
        obtain ⟨f1, h_f1⟩ : ∃ z, accN (b.drop 10) 4 % 4294967296 = z := ⟨_, rfl⟩
        obtain ⟨f2, h_f2⟩ : ∃ z, accN (b.drop 14) 4 % 4294967296 = z := ⟨_, rfl⟩
        obtain ⟨f3, h_f3⟩ : ∃ z, accN (b.drop 18) 4 % 4294967296 = z := ⟨_, rfl⟩
        obtain ⟨f4, h_f4⟩ : ∃ z, accN (b.drop 22) 4 % 4294967296 = z := ⟨_, rfl⟩
        obtain ⟨f5, h_f5⟩ : ∃ z, accN (b.drop 26) 4 % 4294967296 = z := ⟨_, rfl⟩
        obtain ⟨fp, h_fp⟩ : ∃ z, accN (b.drop 30) 4 % 4294967296 = z := ⟨_, rfl⟩
        have r4 : ∀ y : Int, 0 ≤ y % 4294967296 ∧ y % 4294967296 < 4294967296 := fun y => by omega
        have r_f0 : 0 ≤ f0 ∧ f0 < 4294967296 := h_f0 ▸ r4 _
        have r_f1 : 0 ≤ f1 ∧ f1 < 4294967296 := h_f1 ▸ r4 _
        have r_f2 : 0 ≤ f2 ∧ f2 < 4294967296 := h_f2 ▸ r4 _
        have r_f3 : 0 ≤ f3 ∧ f3 < 4294967296 := h_f3 ▸ r4 _
        have r_f4 : 0 ≤ f4 ∧ f4 < 4294967296 := h_f4 ▸ r4 _
        have r_f5 : 0 ≤ f5 ∧ f5 < 4294967296 := h_f5 ▸ r4 _
        have r_fp : 0 ≤ fp ∧ fp < 4294967296 := h_fp ▸ r4 _
        rw [h_fa, h_fk, h_fs, h_fl, h_f0, h_f1, h_f2, h_f3, h_f4, h_f5, h_fp] at hT
        rw [h_fa, h_fk, h_fs, h_fl, h_f0, h_f1, h_f2, h_f3, h_f4, h_f5, h_fp] at hM
        rw [h_fs] at hs2
        rw [h_fa, h_fs, h_f0, h_f1, h_f2, h_f3, h_f4, h_f5, h_fp]
        have hDR : ∀ x ∈ [f0, f1, f2, f3, f4, f5, fp], 0 ≤ x ∧ x < 4294967296 := by
          intro x hx
          simp only [List.mem_cons, List.not_mem_nil, or_false] at hx
          rcases hx with rfl | rfl | rfl | rfl | rfl | rfl | rfl <;> assumption
        dsimp only
        by_cases hi : fa = ino
        rotate_left
        · rw [if_pos hi]
          exact (ino_4 w gl gm gv n K N S l v B SA cs bl ino a ⟨hC⟩ l1 v1 ⟨hm⟩ b ⟨hx⟩ ⟨hby'⟩ fa fk fs fl f0 f1 f2 f3 f4 f5 fp ⟨hT⟩ (bne_iff_ne.2 hi) hi).mono fun e w' h => ⟨h.1, fun h0 => absurd h0 (by decide), h.2⟩
        · rw [if_neg (fun h => h hi)]
          have hib : (fa != ino) = false := bne_eq_false_iff_eq.2 hi
          cases ha : allN K S (filt [f0, f1, f2, f3, f4, f5, fp]) l1 v1 with
          | none => exact (ino_5 w gl gm gv n K N S l v B SA cs bl ino a ⟨hC⟩ l1 v1 ⟨hm⟩ b ⟨hx⟩ ⟨hby'⟩ fa fk fs fl f0 f1 f2 f3 f4 f5 fp ⟨hT⟩ hib ⟨ha⟩ ⟨hDR⟩).mono fun e w' h => ⟨h.1, fun h0 => absurd h0 (by decide), h.2⟩
          | some p2 =>
            obtain ⟨l2, v2⟩ := p2
            dsimp only
            by_cases hp : fp = 0
            · rw [if_pos hp]
              exact (ino_6 w gl gm gv n K N S l v B SA cs bl ino a ⟨hC⟩ l1 v1 ⟨hm⟩ b ⟨hx⟩ ⟨hby'⟩ fa fk fs fl f0 f1 f2 f3 f4 f5 fp ⟨hT⟩ hib l2 v2 ⟨ha⟩ ⟨hDR⟩ (beq_iff_eq.2 hp)).mono fun e w' h => ⟨h.1, fun _ => h.2.1, h.2.2⟩
            · rw [if_neg hp]
              have hpb : (fp == 0) = false := beq_eq_false_iff_ne.2 hp
              have hby2 := rd_mem (bl := bl) (a := fp) (P := fun b => (∀ x ∈ b, 0 ≤ x ∧ x < 256) ∧ b.length ≤ 140737488355328) ⟨by simp, Nat.zero_le _⟩ (fun b hb => ⟨hC.fy b hb, hC.fz b hb⟩)
              obtain ⟨b2, x2, hx2⟩ : ∃ b x, rdN bl fp = (b, x) := ⟨_, _, rfl⟩
              rw [hx2] at hby2
              have hby2' : (∀ x ∈ b2, 0 ≤ x ∧ x < 256) ∧ b2.length ≤ 140737488355328 := hby2
              simp only [hx2]
              by_cases hx20 : x2 = 0
              rotate_left
              · rw [if_pos hx20]
                exact (ino_7 w gl gm gv n K N S l v B SA cs bl ino a ⟨hC⟩ l1 v1 ⟨hm⟩ b ⟨hx⟩ ⟨hby'⟩ fa fk fs fl f0 f1 f2 f3 f4 f5 fp ⟨hT⟩ hib l2 v2 ⟨ha⟩ ⟨hDR⟩ hpb ⟨r_fp⟩ b2 x2 ⟨hx2⟩ (bne_iff_ne.2 hx20)).mono fun e w' h => ⟨h.1, fun h0 => absurd h0 hx20, h.2⟩
              · subst hx20
                rw [if_neg (by simp)]
                by_cases hl2 : b2.length = 112
                rotate_left
                · rw [if_pos hl2]
                  exact (ino_8 w gl gm gv n K N S l v B SA cs bl ino a ⟨hC⟩ l1 v1 ⟨hm⟩ b ⟨hx⟩ ⟨hby'⟩ fa fk fs fl f0 f1 f2 f3 f4 f5 fp ⟨hT⟩ hib l2 v2 ⟨ha⟩ ⟨hDR⟩ hpb ⟨r_fp⟩ b2 ⟨hx2⟩ ⟨hl2⟩ ⟨by omega⟩).mono fun e w' h => ⟨h.1, fun h0 => absurd h0 (by decide), h.2⟩
                · rw [if_neg (fun h => h hl2)]
                  obtain ⟨q1, q2⟩ := may_points hM hp
                  obtain ⟨m, hmm⟩ : ∃ m : Nat, blk fs = (m : Int) + 6 := ⟨(blk fs - 6).toNat, by omega⟩
                  have hmn : (blk fs - 6).toNat = m := by omega
                  rw [hmn]
                  cases ha2 : allN K S ((words b2).take m) l2 v2 with
                  | none => exact (ino_9 w gl gm gv n K N S l v B SA cs bl ino a ⟨hC⟩ l1 v1 ⟨hm⟩ b ⟨hx⟩ ⟨hby'⟩ fa fk fs fl f0 f1 f2 f3 f4 f5 fp ⟨hT⟩ hib l2 v2 ⟨ha⟩ ⟨hDR⟩ hpb ⟨r_fp⟩ b2 ⟨hx2⟩ ⟨hl2⟩ ⟨hby2'.1⟩ m hmm (by omega) (by omega) hs2 ⟨ha2⟩).mono fun e w' h => ⟨h.1, fun h0 => absurd h0 (by decide), h.2⟩
                  | some p3 =>
                    obtain ⟨l3, v3⟩ := p3
                    exact (ino_10 w gl gm gv n K N S l v B SA cs bl ino a ⟨hC⟩ l1 v1 ⟨hm⟩ b ⟨hx⟩ ⟨hby'⟩ fa fk fs fl f0 f1 f2 f3 f4 f5 fp ⟨hT⟩ hib l2 v2 ⟨ha⟩ ⟨hDR⟩ hpb ⟨r_fp⟩ b2 ⟨hx2⟩ ⟨hl2⟩ ⟨hby2'.1⟩ m hmm (by omega) (by omega) hs2 l3 v3 ⟨ha2⟩).mono fun e w' h => ⟨h.1, fun _ => h.2.1, h.2.2⟩
end Go.Proofs.Ytgiapegacbibeaa.UM
