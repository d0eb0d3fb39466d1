/- The document's rune: what the printed hayrickref10_Rune answers (copy of PNamesValid). -/
import Derived.Test.YtneanbckmekdkaaDoorPEntryFormsx4
import Derived.Test.YtneanbckmekdkaaDoorMValid
namespace Go.Proofs.YtneanbckmekdkaaDoor.NMV
open Go.RowKit Go.Proofs.YtneanbckmekdkaaDoorW.PrintWords Go.Proofs.YtneanbckmekdkaaDoorW.PrintLast Go.Proofs.YtneanbckmekdkaaDoorW.PrintMore Go.Proofs.YtneanbckmekdkaaDoor.PEntryForms Go.Proofs.YtneanbckmekdkaaDoor.NM
set_option linter.unusedVariables false
theorem bt_get (s : ByteArray) (i : Nat) : bt s (i : Int) = ((s.data.toList.getD i 0).toNat : Int) := by
  unfold bt
  by_cases h : i < s.size
  · rw [dif_pos (by simpa using h), ← get_list]
    congr 2
    show s[i] = s.data[i]!
    rw [getElem!_pos s.data i h]
    rfl
  · rw [dif_neg (by simpa using h)]
    have : s.data.toList[i]? = none := List.getElem?_eq_none (by rw [← Lib.size_eq]; omega)
    simp [List.getD, this]
theorem l0_in (k : Nat) (s : ByteArray) (n m x : Int) (i j : Nat) (hj : j = i + 1) (b : Int) (hb : bt s i = b) (hi : (i : Int) < n) (hn : n ≤ 4) (hs : i < s.size) (h1 : ¬ b < 128) (h2 : ¬ b > 191) (hx : 0 ≤ x) (hx2 : x < 1000000000) :
    hayrickref10_Rune.l0 (k + 1) s n m x i = hayrickref10_Rune.l0 k s n m (64 * x + b - 128) j := by
  subst hj
  rw [hayrickref10_Rune.l0, if_pos hi, if_pos (by omega), if_pos (by omega), hb, if_neg h1, if_neg h2]
  rw [IntWalk.wrap64_in (64 * x) (by omega), IntWalk.wrap64_in b (by omega), IntWalk.wrap64_in (64 * x + b) (by omega), IntWalk.wrap64_in _ (by omega), IntWalk.wrap64_in _ (by omega)]
  push_cast
  rfl
theorem l0_stray (k : Nat) (s : ByteArray) (n m x : Int) (i : Nat) (hi : (i : Int) < n) (b : Int) (hb : bt s i = b) (hs : i < s.size) (h1 : b < 128 ∨ b > 191) :
    hayrickref10_Rune.l0 (k + 1) s n m x i = some (65533, 1, true) := by
  rw [hayrickref10_Rune.l0, if_pos hi, if_pos (by omega), if_pos (by omega), hb]
  split
  · rfl
  · rw [if_pos (by omega)]
theorem l0_bad (k : Nat) (s : ByteArray) (n m x : Int) (i : Nat) (hi : ¬ (i : Int) < n) (h : x < m ∨ x > 1114111 ∨ (x ≥ 55296 ∧ x < 57344)) :
    hayrickref10_Rune.l0 (k + 1) s n m x i = some (65533, 1, true) := by
  rw [hayrickref10_Rune.l0, if_neg hi]
  repeat' split
  all_goals first | rfl | (exfalso; omega)
theorem l0_good (k : Nat) (s : ByteArray) (n m x : Int) (i : Nat) (hi : ¬ (i : Int) < n) (h : ¬ (x < m ∨ x > 1114111 ∨ (x ≥ 55296 ∧ x < 57344))) (h0 : 0 ≤ x) :
    hayrickref10_Rune.l0 (k + 1) s n m x i = some (x, n, false) := by
  have e : wrap32 x = x := by unfold wrap32; omega
  rw [hayrickref10_Rune.l0, if_neg hi, e]
  repeat' split
  all_goals first | rfl | (exfalso; omega)
theorem j2_none (k : Nat) (s : ByteArray) : hayrickref10_Rune.j2 (k + 2) s 0 0 0 = some (65533, 1, true) := by
  rw [hayrickref10_Rune.j2, if_pos rfl, hayrickref10_Rune.j3, if_pos rfl]
theorem j2_short (k : Nat) (s : ByteArray) (n m x : Int) (hn : n ≠ 0) (h : (s.size : Int) < n) : hayrickref10_Rune.j2 (k + 2) s n m x = some (65533, 1, true) := by
  rw [hayrickref10_Rune.j2, if_neg hn, decide_eq_true h, hayrickref10_Rune.j3, if_pos rfl]
theorem j2_long (k : Nat) (s : ByteArray) (n m x : Int) (hn : n ≠ 0) (h : ¬ (s.size : Int) < n) : hayrickref10_Rune.j2 (k + 2) s n m x = hayrickref10_Rune.l0 k s n m x ((1 : Nat) : Int) := by
  rw [hayrickref10_Rune.j2, if_neg hn, decide_eq_false h, hayrickref10_Rune.j3, if_neg (by decide)]
  rfl
theorem two {k : Nat} {s : ByteArray} {o : Option (Int × Int × Bool)} {p : Nat × Nat} (hd : decL s.data.toList = p) (h : o = some ((p.1 : Int), (p.2 : Int), decide (p.1 = 65533) && decide (p.2 = 1))) :
    o = some (((decL s.data.toList).1 : Int), ((decL s.data.toList).2 : Int), stray s.data.toList) := by
  unfold stray
  rw [hd]
  exact h
set_option maxHeartbeats 1000000 in
theorem rune2 (s : ByteArray) (k b0 b1 b2 b3 : Nat) (g1 : bt s ((1 : Nat) : Int) = b1) (g2 : bt s ((2 : Nat) : Int) = b2) (g3 : bt s ((3 : Nat) : Int) = b3) (u0 : b0 < 256) (u1 : b1 < 256) (u2 : b2 < 256) (u3 : b3 < 256)
    (hd : decL s.data.toList = Lib.decodeN s.size b0 b1 b2 b3) (c0 : 192 ≤ b0) (c1 : b0 < 224) :
    hayrickref10_Rune.j2 (k + 11) s 2 128 ((b0 : Int) - 192) = some (((decL s.data.toList).1 : Int), ((decL s.data.toList).2 : Int), stray s.data.toList) := by
  have no : decL s.data.toList = (65533, 1) → ∀ o : Option (Int × Int × Bool), o = some (65533, 1, true) → o = some (((decL s.data.toList).1 : Int), ((decL s.data.toList).2 : Int), stray s.data.toList) := by
    intro h o ho
    exact two (k := k) h (by rw [ho]; rfl)
  by_cases cl : s.size < 2
  · exact no (by rw [hd]; unfold Lib.decodeN; rw [if_neg (by omega), if_neg (by omega), if_neg (by omega), if_neg (by omega)]) _ (j2_short _ _ _ _ _ (by decide) (by omega))
  rw [j2_long _ _ _ _ _ (by decide) (by omega)]
  by_cases d1 : b1 / 64 ≠ 2
  · rw [l0_stray _ _ _ _ _ _ (by omega) _ g1 (by omega) (by omega)]
    exact no (by rw [hd]; unfold Lib.decodeN; rw [if_neg (by omega), if_neg (by omega), if_neg (by omega), if_neg (by omega)]) _ rfl
  obtain ⟨q1, e1⟩ : ∃ q, q = b1 - 128 := ⟨_, rfl⟩
  have f1 : b1 = 128 + q1 := by omega
  have r1 : q1 < 64 := by omega
  rw [l0_in _ _ _ _ _ 1 2 rfl _ g1 (by omega) (by omega) (by omega) (by omega) (by omega) (by omega) (by omega)]
  have w0 : b0 % 32 = b0 - 192 := by omega
  have w1 : b1 % 64 = q1 := by omega
  obtain ⟨P, hP⟩ : ∃ P : Nat, P = (b0 - 192) * 64 + q1 := ⟨_, rfl⟩
  have hP2 : b0 % 32 * 64 + b1 % 64 = P := by rw [w0, w1, hP]
  have hX : (64 * ((b0 : Int) - 192) + (b1 : Int) - 128) = (P : Int) := by omega
  rw [hX]
  have hD : decL s.data.toList = if P ≥ 128 then (P, 2) else (65533, 1) := by
    rw [hd]; unfold Lib.decodeN
    rw [if_neg (by omega), if_pos (by omega)]
    simp only [hP2]
  have hPq : P < 2048 := by omega
  clear hd hP2 w0 w1 hX hP no
  by_cases v : P ≥ 128
  · rw [if_pos v] at hD
    rw [l0_good _ _ _ _ _ _ (by omega) (by omega) (by omega)]
    exact two (k := k) hD (by simp)
  · rw [if_neg v] at hD
    rw [l0_bad _ _ _ _ _ _ (by omega) (by omega)]
    exact two (k := k) hD (by rfl)
set_option maxHeartbeats 1000000 in
theorem rune3 (s : ByteArray) (k b0 b1 b2 b3 : Nat) (g1 : bt s ((1 : Nat) : Int) = b1) (g2 : bt s ((2 : Nat) : Int) = b2) (g3 : bt s ((3 : Nat) : Int) = b3) (u0 : b0 < 256) (u1 : b1 < 256) (u2 : b2 < 256) (u3 : b3 < 256)
    (hd : decL s.data.toList = Lib.decodeN s.size b0 b1 b2 b3) (c0 : 224 ≤ b0) (c1 : b0 < 240) :
    hayrickref10_Rune.j2 (k + 10) s 3 2048 ((b0 : Int) - 224) = some (((decL s.data.toList).1 : Int), ((decL s.data.toList).2 : Int), stray s.data.toList) := by
  have no : decL s.data.toList = (65533, 1) → ∀ o : Option (Int × Int × Bool), o = some (65533, 1, true) → o = some (((decL s.data.toList).1 : Int), ((decL s.data.toList).2 : Int), stray s.data.toList) := by
    intro h o ho
    exact two (k := k) h (by rw [ho]; rfl)
  by_cases cl : s.size < 3
  · exact no (by rw [hd]; unfold Lib.decodeN; rw [if_neg (by omega), if_neg (by omega), if_neg (by omega), if_neg (by omega)]) _ (j2_short _ _ _ _ _ (by decide) (by omega))
  rw [j2_long _ _ _ _ _ (by decide) (by omega)]
  by_cases d1 : b1 / 64 ≠ 2
  · rw [l0_stray _ _ _ _ _ _ (by omega) _ g1 (by omega) (by omega)]
    exact no (by rw [hd]; unfold Lib.decodeN; rw [if_neg (by omega), if_neg (by omega), if_neg (by omega), if_neg (by omega)]) _ rfl
  obtain ⟨q1, e1⟩ : ∃ q, q = b1 - 128 := ⟨_, rfl⟩
  have f1 : b1 = 128 + q1 := by omega
  have r1 : q1 < 64 := by omega
  rw [l0_in _ _ _ _ _ 1 2 rfl _ g1 (by omega) (by omega) (by omega) (by omega) (by omega) (by omega) (by omega)]
  by_cases d2 : b2 / 64 ≠ 2
  · rw [l0_stray _ _ _ _ _ _ (by omega) _ g2 (by omega) (by omega)]
    exact no (by rw [hd]; unfold Lib.decodeN; rw [if_neg (by omega), if_neg (by omega), if_neg (by omega), if_neg (by omega)]) _ rfl
  obtain ⟨q2, e2⟩ : ∃ q, q = b2 - 128 := ⟨_, rfl⟩
  have f2 : b2 = 128 + q2 := by omega
  have r2 : q2 < 64 := by omega
  rw [l0_in _ _ _ _ _ 2 3 rfl _ g2 (by omega) (by omega) (by omega) (by omega) (by omega) (by omega) (by omega)]
  have w0 : b0 % 16 = b0 - 224 := by omega
  have w1 : b1 % 64 = q1 := by omega
  have w2 : b2 % 64 = q2 := by omega
  obtain ⟨P, hP⟩ : ∃ P : Nat, P = (b0 - 224) * 4096 + q1 * 64 + q2 := ⟨_, rfl⟩
  have hP2 : b0 % 16 * 4096 + b1 % 64 * 64 + b2 % 64 = P := by rw [w0, w1, w2, hP]
  have hX : (64 * (64 * ((b0 : Int) - 224) + (b1 : Int) - 128) + (b2 : Int) - 128) = (P : Int) := by omega
  rw [hX]
  have hD : decL s.data.toList = if P ≥ 2048 ∧ (P < 55296 ∨ (57344 ≤ P ∧ P ≤ 1114111)) then (P, 3) else (65533, 1) := by
    rw [hd]; unfold Lib.decodeN
    rw [if_neg (by omega), if_neg (by omega), if_pos (by omega)]
    simp only [hP2]
  have hPq : P < 65536 := by omega
  clear hd hP2 w0 w1 w2 hX hP no
  by_cases v : P ≥ 2048 ∧ (P < 55296 ∨ (57344 ≤ P ∧ P ≤ 1114111))
  · rw [if_pos v] at hD
    rw [l0_good _ _ _ _ _ _ (by omega) (by omega) (by omega)]
    exact two (k := k) hD (by simp)
  · rw [if_neg v] at hD
    rw [l0_bad _ _ _ _ _ _ (by omega) (by omega)]
    exact two (k := k) hD (by rfl)
set_option maxHeartbeats 1000000 in
theorem rune4 (s : ByteArray) (k b0 b1 b2 b3 : Nat) (g1 : bt s ((1 : Nat) : Int) = b1) (g2 : bt s ((2 : Nat) : Int) = b2) (g3 : bt s ((3 : Nat) : Int) = b3) (u0 : b0 < 256) (u1 : b1 < 256) (u2 : b2 < 256) (u3 : b3 < 256)
    (hd : decL s.data.toList = Lib.decodeN s.size b0 b1 b2 b3) (c0 : 240 ≤ b0) (c1 : b0 < 248) :
    hayrickref10_Rune.j2 (k + 10) s 4 65536 ((b0 : Int) - 240) = some (((decL s.data.toList).1 : Int), ((decL s.data.toList).2 : Int), stray s.data.toList) := by
  have no : decL s.data.toList = (65533, 1) → ∀ o : Option (Int × Int × Bool), o = some (65533, 1, true) → o = some (((decL s.data.toList).1 : Int), ((decL s.data.toList).2 : Int), stray s.data.toList) := by
    intro h o ho
    exact two (k := k) h (by rw [ho]; rfl)
  by_cases cl : s.size < 4
  · exact no (by rw [hd]; unfold Lib.decodeN; rw [if_neg (by omega), if_neg (by omega), if_neg (by omega), if_neg (by omega)]) _ (j2_short _ _ _ _ _ (by decide) (by omega))
  rw [j2_long _ _ _ _ _ (by decide) (by omega)]
  by_cases d1 : b1 / 64 ≠ 2
  · rw [l0_stray _ _ _ _ _ _ (by omega) _ g1 (by omega) (by omega)]
    exact no (by rw [hd]; unfold Lib.decodeN; rw [if_neg (by omega), if_neg (by omega), if_neg (by omega), if_neg (by omega)]) _ rfl
  obtain ⟨q1, e1⟩ : ∃ q, q = b1 - 128 := ⟨_, rfl⟩
  have f1 : b1 = 128 + q1 := by omega
  have r1 : q1 < 64 := by omega
  rw [l0_in _ _ _ _ _ 1 2 rfl _ g1 (by omega) (by omega) (by omega) (by omega) (by omega) (by omega) (by omega)]
  by_cases d2 : b2 / 64 ≠ 2
  · rw [l0_stray _ _ _ _ _ _ (by omega) _ g2 (by omega) (by omega)]
    exact no (by rw [hd]; unfold Lib.decodeN; rw [if_neg (by omega), if_neg (by omega), if_neg (by omega), if_neg (by omega)]) _ rfl
  obtain ⟨q2, e2⟩ : ∃ q, q = b2 - 128 := ⟨_, rfl⟩
  have f2 : b2 = 128 + q2 := by omega
  have r2 : q2 < 64 := by omega
  rw [l0_in _ _ _ _ _ 2 3 rfl _ g2 (by omega) (by omega) (by omega) (by omega) (by omega) (by omega) (by omega)]
  by_cases d3 : b3 / 64 ≠ 2
  · rw [l0_stray _ _ _ _ _ _ (by omega) _ g3 (by omega) (by omega)]
    exact no (by rw [hd]; unfold Lib.decodeN; rw [if_neg (by omega), if_neg (by omega), if_neg (by omega), if_neg (by omega)]) _ rfl
  obtain ⟨q3, e3⟩ : ∃ q, q = b3 - 128 := ⟨_, rfl⟩
  have f3 : b3 = 128 + q3 := by omega
  have r3 : q3 < 64 := by omega
  rw [l0_in _ _ _ _ _ 3 4 rfl _ g3 (by omega) (by omega) (by omega) (by omega) (by omega) (by omega) (by omega)]
  have w0 : b0 % 8 = b0 - 240 := by omega
  have w1 : b1 % 64 = q1 := by omega
  have w2 : b2 % 64 = q2 := by omega
  have w3 : b3 % 64 = q3 := by omega
  obtain ⟨P, hP⟩ : ∃ P : Nat, P = (b0 - 240) * 262144 + q1 * 4096 + q2 * 64 + q3 := ⟨_, rfl⟩
  have hP2 : b0 % 8 * 262144 + b1 % 64 * 4096 + b2 % 64 * 64 + b3 % 64 = P := by rw [w0, w1, w2, w3, hP]
  have hX : (64 * (64 * (64 * ((b0 : Int) - 240) + (b1 : Int) - 128) + (b2 : Int) - 128) + (b3 : Int) - 128) = (P : Int) := by omega
  rw [hX]
  have hD : decL s.data.toList = if P ≥ 65536 ∧ (P < 55296 ∨ (57344 ≤ P ∧ P ≤ 1114111)) then (P, 4) else (65533, 1) := by
    rw [hd]; unfold Lib.decodeN
    rw [if_neg (by omega), if_neg (by omega), if_neg (by omega), if_pos (by omega)]
    simp only [hP2]
  have hPq : P < 2097152 := by omega
  clear hd hP2 w0 w1 w2 w3 hX hP no
  by_cases v : P ≥ 65536 ∧ (P < 55296 ∨ (57344 ≤ P ∧ P ≤ 1114111))
  · rw [if_pos v] at hD
    rw [l0_good _ _ _ _ _ _ (by omega) (by omega) (by omega)]
    exact two (k := k) hD (by simp)
  · rw [if_neg v] at hD
    rw [l0_bad _ _ _ _ _ _ (by omega) (by omega)]
    exact two (k := k) hD (by rfl)
set_option maxHeartbeats 4000000 in
theorem rune_f (s : ByteArray) (k : Nat) (hs : 0 < s.size) : hayrickref10_Rune.f (k + 12) s = some (((decL s.data.toList).1 : Int), ((decL s.data.toList).2 : Int), stray s.data.toList) := by
  have g0 := bt_get s 0
  have g1 := bt_get s 1
  have g2 := bt_get s 2
  have g3 := bt_get s 3
  have u0 := (s.data.toList.getD 0 0).toNat_lt
  have u1 := (s.data.toList.getD 1 0).toNat_lt
  have u2 := (s.data.toList.getD 2 0).toNat_lt
  have u3 := (s.data.toList.getD 3 0).toNat_lt
  have hd : decL s.data.toList = Lib.decodeN s.size (s.data.toList.getD 0 0).toNat (s.data.toList.getD 1 0).toNat (s.data.toList.getD 2 0).toNat (s.data.toList.getD 3 0).toNat := by
    rw [Lib.size_eq]; rfl
  revert hd u0 u1 u2 u3
  generalize (s.data.toList.getD 0 0).toNat = b0 at g0
  generalize (s.data.toList.getD 1 0).toNat = b1 at g1
  generalize (s.data.toList.getD 2 0).toNat = b2 at g2
  generalize (s.data.toList.getD 3 0).toNat = b3 at g3
  intro u0 u1 u2 u3 hd
  have g0' : bt s 0 = b0 := g0
  unfold hayrickref10_Rune.f
  rw [if_pos (by omega), g0', IntWalk.wrap64_in (b0 : Int) (by omega)]
  clear g0 g0'
  by_cases c0 : b0 < 128
  · rw [if_pos (by omega)]
    refine two (k := k) (p := (b0, 1)) (by rw [hd]; unfold Lib.decodeN; rw [if_pos c0]) ?_
    have e : wrap32 (b0 : Int) = b0 := by unfold wrap32; omega
    have e2 : decide (b0 = 65533) = false := decide_eq_false (by omega)
    rw [e]
    simp [e2]
  rw [if_neg (by omega)]
  by_cases cs : b0 < 192 ∨ 248 ≤ b0
  · refine two (k := k) (p := (65533, 1)) (by
      rw [hd]; unfold Lib.decodeN
      rw [if_neg c0, if_neg (by omega), if_neg (by omega), if_neg (by omega)]) ?_
    rcases cs with cs | cs
    · rw [if_neg (by omega), hayrickref10_Rune.j0, if_neg (by decide), if_neg (by omega), hayrickref10_Rune.j1, if_neg (by decide), if_neg (by omega), j2_none]
      rfl
    · rw [if_pos (by omega), decide_eq_false (by omega), hayrickref10_Rune.j0, if_neg (by decide), if_pos (by omega), decide_eq_false (by omega), hayrickref10_Rune.j1, if_neg (by decide), if_pos (by omega), if_neg (by omega), j2_none]
      rfl
  rw [if_pos (by omega)]
  by_cases c1 : b0 < 224
  · rw [decide_eq_true (by omega), hayrickref10_Rune.j0, if_pos rfl, IntWalk.wrap64_in _ (by omega)]
    exact rune2 s k b0 b1 b2 b3 g1 g2 g3 u0 u1 u2 u3 hd (by omega) c1
  rw [decide_eq_false (by omega), hayrickref10_Rune.j0, if_neg (by decide), if_pos (by omega)]
  by_cases c2 : b0 < 240
  · rw [decide_eq_true (by omega), hayrickref10_Rune.j1, if_pos rfl, IntWalk.wrap64_in _ (by omega)]
    exact rune3 s k b0 b1 b2 b3 g1 g2 g3 u0 u1 u2 u3 hd (by omega) c2
  rw [decide_eq_false (by omega), hayrickref10_Rune.j1, if_neg (by decide), if_pos (by omega), if_pos (by omega), IntWalk.wrap64_in _ (by omega)]
  exact rune4 s k b0 b1 b2 b3 g1 g2 g3 u0 u1 u2 u3 hd (by omega) (by omega)
end Go.Proofs.YtneanbckmekdkaaDoor.NMV
