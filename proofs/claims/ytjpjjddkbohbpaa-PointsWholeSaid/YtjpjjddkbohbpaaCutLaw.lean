/- points.Cut and the document's: the same pieces; and what they are. -/
import Derived.Test.YtjpjjddkbohbpaaPPointsCutx1
namespace Go.Proofs.YtjpjjddkbohbpaaX
open Go.RowKit Go.Proofs.YtjpjjddkbohbpaaW.PrintWords Go.Proofs.Ytjpjjddkbohbpaa.PPointsCut Go.Proofs.YtjpjjddkbohbpaaW.PrintLast Go.Proofs.YtjpjjddkbohbpaaW.PrintMore
set_option linter.unusedVariables false
theorem cw64 {n : Int} (h : -9223372036854775808 ≤ n ∧ n ≤ 9223372036854775807) : wrap64 n = n := IntWalk.wrap64_in n h
def cv (x : S31) : S30 := ⟨x.f0, x.f1, x.f2, x.f3⟩
theorem last_at (pre : List S30) (x : S30) : rd_T30 (pre ++ [x]) (pre.length : Int) = x := by
  unfold rd_T30; simp
theorem last_set (pre : List S30) (x y : S30) : (pre ++ [x]).set ((pre.length : Int)).toNat y = pre ++ [y] := by simp
/-- One more byte of a new piece. -/
theorem ref_new (k : Nat) (off n i : Int) (pre : List S30) (B F : Int) (ho : 0 ≤ off) (hi : 0 ≤ i) (hn : i < n) (hs : off + n ≤ 3808) (hl : pre.length ≤ 5000)
    (hB : (off + i) / 112 = B) (hF : (off + i) % 112 = F) (hp : pre = [] ∨ ∃ q x, pre = q ++ [x] ∧ x.f0 ≠ B) :
    hayrickref13_Cut.l0 (k + 1) off n pre i = hayrickref13_Cut.l0 k off n (pre ++ [⟨B, F, F + 1, i⟩]) (i + 1) := by
  have e1 : wrap64 (Int.tdiv (wrap64 (off + i)) 112) = B := by
    rw [cw64 (n := off + i) (by omega), Int.tdiv_eq_ediv_of_nonneg (by omega), hB, cw64 (by omega)]
  have e2 : Int.tmod (wrap64 (off + i)) 112 = F := by
    rw [cw64 (n := off + i) (by omega), Int.tmod_eq_emod_of_nonneg (by omega), hF]
  have e3 : wrap64 (i + 1) = i + 1 := cw64 (by omega)
  have e4 : wrap64 (F + 1) = F + 1 := cw64 (by omega)
  have key : ((some (pre ++ [(⟨B, F, F, i⟩ : S30)]) : Option (List S30)).bind fun y => (if 0 ≤ (wrap64 ((y.length : Int) - 1)) then (if (wrap64 ((y.length : Int) - 1)) < (y.length : Int) then (hayrickref13_Cut.l0 k off n (y.set ((wrap64 ((y.length : Int) - 1)) : Int).toNat (⟨(rd_T30 y (wrap64 ((y.length : Int) - 1))).f0, (rd_T30 y (wrap64 ((y.length : Int) - 1))).f1, wrap64 (((rd_T30 y (wrap64 ((y.length : Int) - 1))).f2) + 1), (rd_T30 y (wrap64 ((y.length : Int) - 1))).f3⟩ : S30)) (wrap64 (i + 1))) else (none)) else (none))) = hayrickref13_Cut.l0 k off n (pre ++ [⟨B, F, F + 1, i⟩]) (i + 1) := by
    have e5 : wrap64 (((pre ++ [(⟨B, F, F, i⟩ : S30)]).length : Int) - 1) = (pre.length : Int) := by
      rw [cw64 (by simp; omega)]; simp
    rw [Option.bind_some, e5, if_pos (by omega), if_pos (by simp; omega), last_at, last_set, e3, e4]
  rw [hayrickref13_Cut.l0, if_pos hn, e1, e2]
  rcases hp with rfl | ⟨q, x, rfl, hx⟩
  · rw [if_pos (by simp), if_pos (by simp)]
    exact key
  · have e6 : wrap64 (((q ++ [x]).length : Int) - 1) = (q.length : Int) := by
      rw [cw64 (by simp at hl ⊢; omega)]; simp
    rw [if_neg (by simp; omega), e6, if_pos (by omega), if_pos (by simp; omega), last_at, if_neg hx, if_pos (by omega)]
    exact key
/-- One more byte of the piece that is last. -/
theorem ref_more (k : Nat) (off n i : Int) (q : List S30) (B F T a : Int) (ho : 0 ≤ off) (hi : 0 ≤ i) (hn : i < n) (hs : off + n ≤ 3808) (hl : q.length ≤ 5000)
    (hB : (off + i) / 112 = B) (hT : 0 ≤ T ∧ T ≤ 112) :
    hayrickref13_Cut.l0 (k + 1) off n (q ++ [⟨B, F, T, a⟩]) i = hayrickref13_Cut.l0 k off n (q ++ [⟨B, F, T + 1, a⟩]) (i + 1) := by
  have e1 : wrap64 (Int.tdiv (wrap64 (off + i)) 112) = B := by
    rw [cw64 (n := off + i) (by omega), Int.tdiv_eq_ediv_of_nonneg (by omega), hB, cw64 (by omega)]
  have e3 : wrap64 (i + 1) = i + 1 := cw64 (by omega)
  have e4 : wrap64 (T + 1) = T + 1 := cw64 (by omega)
  have e6 : wrap64 (((q ++ [(⟨B, F, T, a⟩ : S30)]).length : Int) - 1) = (q.length : Int) := by
    rw [cw64 (by simp; omega)]; simp
  rw [hayrickref13_Cut.l0, if_pos hn, e1, if_neg (by simp; omega), e6, if_pos (by omega), if_pos (by simp; omega), last_at, if_pos rfl, last_set, e3, e4]
theorem ref_run (off n : Int) (q : List S30) (B F a : Int) (ho : 0 ≤ off) (ha : 0 ≤ a) (hs : off + n ≤ 3808) (hl : q.length ≤ 5000) (hB : (off + a) / 112 = B) (hF : (off + a) % 112 = F) :
    ∀ (m k : Nat), F + 1 + m ≤ 112 → a + 1 + m ≤ n → hayrickref13_Cut.l0 (k + m) off n (q ++ [⟨B, F, F + 1, a⟩]) (a + 1) = hayrickref13_Cut.l0 k off n (q ++ [⟨B, F, F + 1 + m, a⟩]) (a + 1 + m)
  | 0, k, _, _ => by simp
  | m + 1, k, h1, h2 => by
    rw [show k + (m + 1) = (k + 1) + m from by omega, ref_run off n q B F a ho ha hs hl hB hF m (k + 1) (by omega) (by omega),
      ref_more k off n (a + 1 + m) q B F (F + 1 + m) a ho (by omega) (by omega) hs hl (by omega) (by omega)]
    rw [show F + 1 + (m : Int) + 1 = F + 1 + ((m + 1 : Nat) : Int) from by omega, show a + 1 + (m : Int) + 1 = a + 1 + ((m + 1 : Nat) : Int) from by omega]
/-- A piece of the program's. -/
theorem cut_step (k : Nat) (off n i : Int) (pre : List S31) (B F T : Int) (ho : 0 ≤ off) (hi : 0 ≤ i) (hn : i < n) (hs : off + n ≤ 3808) (hl : pre.length ≤ 5000)
    (hB : (off + i) / 112 = B) (hF : (off + i) % 112 = F) (hT : T = if F + n - i < 112 then F + n - i else 112) :
    points_Cut.l0 (k + 1) off n pre i = points_Cut.l0 k off n (pre ++ [⟨B, F, T, i⟩]) (i + (T - F)) := by
  have e1 : wrap64 (Int.tdiv (wrap64 (off + i)) 112) = B := by
    rw [cw64 (n := off + i) (by omega), Int.tdiv_eq_ediv_of_nonneg (by omega), hB, cw64 (by omega)]
  have e2 : Int.tmod (wrap64 (off + i)) 112 = F := by
    rw [cw64 (n := off + i) (by omega), Int.tmod_eq_emod_of_nonneg (by omega), hF]
  have e5 : mn 112 (wrap64 ((wrap64 (F + n)) - i)) = T := by
    rw [cw64 (n := F + n) (by omega), cw64 (n := F + n - i) (by omega), hT]
    rfl
  have e6 : wrap64 (i + wrap64 (T - F)) = i + (T - F) := by
    have : 0 ≤ T ∧ T ≤ 112 := by subst hT; split <;> omega
    rw [cw64 (n := T - F) (by omega), cw64 (by omega)]
  rw [points_Cut.l0, if_pos hn, if_pos (by omega), e1, e2, e5, e6]
theorem cut_main (off n : Int) (ho : 0 ≤ off) (hs : off + n ≤ 3808) :
    ∀ (d : Nat) (i : Int) (pre : List S31), 0 ≤ i → i ≤ n → (n - i).toNat ≤ d → (i < n → pre = [] ∨ ∃ q x, pre = q ++ [x] ∧ x.f0 ≠ (off + i) / 112) → (pre.length : Int) ≤ i →
      ∃ k LP, points_Cut.l0 k off n pre i = some (LP, 0) ∧ hayrickref13_Cut.l0 k off n (pre.map cv) i = some (LP.map cv, 0) := by
  intro d
  induction d with
  | zero =>
    intro i pre h0 hn hd _ hl
    refine ⟨1, pre, ?_, ?_⟩
    · rw [points_Cut.l0, if_neg (by omega)]
    · rw [hayrickref13_Cut.l0, if_neg (by omega)]
  | succ d ih =>
    intro i pre h0 hn hd hp hl
    by_cases hlt : i < n
    · obtain ⟨B, hB⟩ : ∃ B, (off + i) / 112 = B := ⟨_, rfl⟩
      obtain ⟨F, hF⟩ : ∃ F, (off + i) % 112 = F := ⟨_, rfl⟩
      obtain ⟨T, hT⟩ : ∃ T, T = if F + n - i < 112 then F + n - i else 112 := ⟨_, rfl⟩
      have hTF : F + 1 ≤ T ∧ T ≤ 112 ∧ i + (T - F) ≤ n := by subst hT; split <;> omega
      have hnext : i + (T - F) < n → T = 112 := by subst hT; split <;> omega
      obtain ⟨k, LP, hk1, hk2⟩ := ih (i + (T - F)) (pre ++ [⟨B, F, T, i⟩]) (by omega) (by omega) (by omega) (fun h => .inr ⟨pre, _, rfl, by have := hnext h; show B ≠ _; omega⟩) (by simp; omega)
      refine ⟨k + (T - F).toNat, LP, ?_, ?_⟩
      · have := cut_step k off n i pre B F T ho h0 hlt hs (by omega) hB hF hT
        exact at_rounds (g := fun k => points_Cut.l0 k off n pre i) (fun k => (points_Cut.mono_l k).2 _ _ _ _) (k := k + 1) (by omega) (this.trans hk1)
      · obtain ⟨m, hm⟩ : ∃ m : Nat, (T - F).toNat = m + 1 := ⟨(T - F).toNat - 1, by omega⟩
        rw [hm, show k + (m + 1) = (k + m) + 1 from by omega,
          ref_new (k + m) off n i (pre.map cv) B F ho h0 hlt hs (by simp; omega) hB hF (by
            rcases hp hlt with rfl | ⟨q, x, rfl, hx⟩
            · exact .inl rfl
            · exact .inr ⟨q.map cv, cv x, by simp, by rw [hB] at hx; exact hx⟩),
          ref_run off n (pre.map cv) B F i ho h0 hs (by simp; omega) hB hF m k (by omega) (by omega),
          show F + 1 + (m : Int) = T from by omega, show i + 1 + (m : Int) = i + (T - F) from by omega]
        simpa [cv] using hk2
    · refine ⟨1, pre, ?_, ?_⟩
      · rw [points_Cut.l0, if_neg (by omega)]
      · rw [hayrickref13_Cut.l0, if_neg (by omega)]
theorem cut_both (off n : Int) (h0 : -9223372036854775808 ≤ off ∧ off ≤ 9223372036854775807) (h1 : -9223372036854775808 ≤ n ∧ n ≤ 9223372036854775807) :
    ∃ k LP e, points_Cut.f k off n = some (LP, e) ∧ hayrickref13_Cut.f k off n = some (LP.map cv, e) := by
  by_cases ha : off < 0
  · exact ⟨1, [], 1, by rw [points_Cut.f, if_pos ha]; rfl, by rw [hayrickref13_Cut.f, if_pos ha]; rfl⟩
  by_cases hb : n < 0
  · exact ⟨1, [], 1, by rw [points_Cut.f, if_neg ha, decide_eq_true hb]; rfl, by rw [hayrickref13_Cut.f, if_neg ha, decide_eq_true hb]; rfl⟩
  by_cases hc : off > 3808
  · refine ⟨2, [], 39, ?_, ?_⟩
    · rw [points_Cut.f, if_neg ha, decide_eq_false hb, points_Cut.j0, if_neg (by simp), if_pos hc]
    · rw [hayrickref13_Cut.f, if_neg ha, decide_eq_false hb, hayrickref13_Cut.j0, if_neg (by simp), if_pos hc]; rfl
  by_cases hd : n > 3808 - off
  · refine ⟨2, [], 39, ?_, ?_⟩
    · rw [points_Cut.f, if_neg ha, decide_eq_false hb, points_Cut.j0, if_neg (by simp), if_neg hc, cw64 (by omega), if_pos hd]
    · rw [hayrickref13_Cut.f, if_neg ha, decide_eq_false hb, hayrickref13_Cut.j0, if_neg (by simp), if_neg hc]
      by_cases he : n > 3808
      · rw [if_pos he]; rfl
      · rw [if_neg he, cw64 (by omega), decide_eq_true (by omega)]; rfl
  · obtain ⟨k, LP, hk1, hk2⟩ := cut_main off n (by omega) (by omega) (n - 0).toNat 0 [] (by omega) (by omega) (by omega) (fun _ => .inl rfl) (by simp)
    refine ⟨k + 2, LP, 0, ?_, ?_⟩
    · rw [points_Cut.f, if_neg ha, decide_eq_false hb, points_Cut.j0, if_neg (by simp), if_neg hc, cw64 (by omega), if_neg hd]
      exact at_rounds (g := fun k => points_Cut.l0 k off n [] 0) (fun k => (points_Cut.mono_l k).2 _ _ _ _) (k := k) (by omega) hk1
    · rw [hayrickref13_Cut.f, if_neg ha, decide_eq_false hb, hayrickref13_Cut.j0, if_neg (by simp), if_neg hc, if_neg (by omega), cw64 (by omega), decide_eq_false (by omega), hayrickref13_Cut.j1, if_neg (by simp)]
      exact hk2
end Go.Proofs.YtjpjjddkbohbpaaX
