/- The document's Put, Take, At: what they answer. -/
import Derived.Test.YtjpjjddkbohbpaaPPointsFormsx1
import Derived.Test.YtjpjjddkbohbpaaPPointsFormsx2
import Derived.Test.YtjpjjddkbohbpaaPut
import Derived.Test.YtjpjjddkbohbpaaTake
namespace Go.Proofs.YtjpjjddkbohbpaaX
open Go.RowKit Go.Proofs.YtjpjjddkbohbpaaW.PrintWords Go.Proofs.Ytjpjjddkbohbpaa.PPointsForms
set_option linter.unusedVariables false
theorem f64 {n : Int} (h : -9223372036854775808 ≤ n ∧ n ≤ 9223372036854775807) : wrap64 n = n := IntWalk.wrap64_in n h
theorem set_four (pre post : List Int) (w x y z a b c d : Int) :
    ((((pre ++ [w, x, y, z] ++ post).set (pre.length + 3) d).set (pre.length + 2) c).set (pre.length + 1) b).set pre.length a = pre ++ [a, b, c, d] ++ post := by
  simp
theorem four_split (l : List Int) (m : Nat) (h : m + 4 ≤ l.length) : ∃ w x y z, l = l.take m ++ [w, x, y, z] ++ l.drop (m + 4) := by
  have e0 : l.drop m = l[m] :: l.drop (m + 1) := List.drop_eq_getElem_cons (by omega)
  have e1 : l.drop (m + 1) = l[m + 1] :: l.drop (m + 2) := List.drop_eq_getElem_cons (by omega)
  have e2 : l.drop (m + 2) = l[m + 2] :: l.drop (m + 3) := List.drop_eq_getElem_cons (by omega)
  have e3 : l.drop (m + 3) = l[m + 3] :: l.drop (m + 4) := List.drop_eq_getElem_cons (by omega)
  refine ⟨l[m], l[m + 1], l[m + 2], l[m + 3], ?_⟩
  have h0 : l = l.take m ++ l.drop m := (List.take_append_drop m l).symm
  rw [e0, e1, e2, e3] at h0
  simp
theorem set4 (l : List Int) (m : Nat) (h : m + 4 ≤ l.length) (a b c d : Int) : (((l.set (m + 3) d).set (m + 2) c).set (m + 1) b).set m a = l.take m ++ [a, b, c, d] ++ l.drop (m + 4) := by
  obtain ⟨w, x, y, z, e⟩ := four_split l m h
  have hl : (l.take m).length = m := by rw [List.length_take]; omega
  have := set_four (l.take m) (l.drop (m + 4)) w x y z a b c d
  rw [hl, ← e] at this
  exact this
theorem rput_in (k : Nat) (l P : List Int) (i : Nat) (x : Int) (hi : i < 28) (hP : P.length = 112) (hx : 0 ≤ x ∧ x < 4294967296) :
    hayrickref13_Put.l1 (k + 5) l P (i : Int) x 3 = hayrickref13_Put.l0 k l (P.take (4 * i) ++ bytes4 x ++ P.drop (4 * i + 4)) ((i : Int) + 1) := by
  have hw : ∀ j : Int, 0 ≤ j → j ≤ 3 → wrap64 (wrap64 (4 * (i : Int)) + j) = 4 * (i : Int) + j := fun j h0 h3 => by rw [f64 (n := 4 * (i : Int)) (by omega), f64 (by omega)]
  have hq : ∀ y : Int, 0 ≤ y → y < 4294967296 → Int.tdiv y 256 % 4294967296 = y / 256 := fun y h0 h1 => by rw [Int.tdiv_eq_ediv_of_nonneg h0]; omega
  have hm : ∀ y : Int, 0 ≤ y → Int.tmod y 256 % 256 = y % 256 := fun y h0 => by rw [Int.tmod_eq_emod_of_nonneg h0]; omega
  have e3 : (4 * (i : Int) + 3).toNat = 4 * i + 3 := by omega
  have e2 : (4 * (i : Int) + 2).toNat = 4 * i + 2 := by omega
  have e1 : (4 * (i : Int) + 1).toNat = 4 * i + 1 := by omega
  have e0 : (4 * (i : Int) + 0).toNat = 4 * i := by omega
  rw [hayrickref13_Put.l1, if_pos (by decide), hw 3 (by decide) (by decide), if_pos (by omega), if_pos (by rw [hP]; omega), e3, hm x hx.1, hq x hx.1 hx.2, show wrap64 ((3 : Int) - 1) = 2 from f64 (by decide)]
  rw [hayrickref13_Put.l1, if_pos (by decide), hw 2 (by decide) (by decide), if_pos (by omega), if_pos (by rw [List.length_set, hP]; omega), e2, hm _ (by omega), hq _ (by omega) (by omega), show wrap64 ((2 : Int) - 1) = 1 from f64 (by decide)]
  rw [hayrickref13_Put.l1, if_pos (by decide), hw 1 (by decide) (by decide), if_pos (by omega), if_pos (by rw [List.length_set, List.length_set, hP]; omega), e1, hm _ (by omega), hq _ (by omega) (by omega), show wrap64 ((1 : Int) - 1) = 0 from f64 (by decide)]
  rw [hayrickref13_Put.l1, if_pos (by decide), hw 0 (by decide) (by decide), if_pos (by omega), if_pos (by rw [List.length_set, List.length_set, List.length_set, hP]; omega), e0, hm _ (by omega), hq _ (by omega) (by omega), show wrap64 ((0 : Int) - 1) = -1 from f64 (by decide)]
  rw [hayrickref13_Put.l1, if_neg (by decide), f64 (n := (i : Int) + 1) (by omega), set4 P (4 * i) (by omega)]
  have d1 : x / 256 / 256 = x / 65536 := by omega
  have d2 : x / 256 / 256 / 256 = x / 16777216 := by omega
  rw [d2, d1]
  rfl
theorem rput_run (l : List Int) (hl : l.length ≤ 28) (hx : ∀ x ∈ l, 0 ≤ x ∧ x < 4294967296) : ∀ (d i : Nat), i + d = l.length → ∃ k, hayrickref13_Put.l0 k l (putN l i) (i : Int) = some (putN l l.length, 0)
  | 0, i, h => ⟨1, by rw [hayrickref13_Put.l0, if_neg (by omega), show i = l.length from h]⟩
  | d + 1, i, h => by
    obtain ⟨k, hk⟩ := rput_run l hl hx d (i + 1) (by omega)
    have e : rd l (i : Int) = l.getD i 0 := by unfold rd; rw [Int.toNat_natCast]
    have hxi : 0 ≤ l.getD i 0 ∧ l.getD i 0 < 4294967296 := hx _ (by rw [List.getD_eq_getElem?_getD, List.getElem?_eq_getElem (by omega)]; exact List.getElem_mem _)
    refine ⟨k + 5 + 1, ?_⟩
    rw [hayrickref13_Put.l0, if_pos (by omega), if_pos (by omega), e, rput_in k l _ i _ (by omega) (putN_length (by omega) (by omega)) hxi, putN_step (by omega) (by omega)]
    rw [Int.natCast_add] at hk
    exact hk
theorem rput_f (l : List Int) (hl : l.length ≤ 28) (hx : ∀ x ∈ l, 0 ≤ x ∧ x < 4294967296) : ∃ k, hayrickref13_Put.f k l = some (putN l l.length, 0) := by
  obtain ⟨k, hk⟩ := rput_run l hl hx l.length 0 (by omega)
  refine ⟨k, ?_⟩
  rw [hayrickref13_Put.f, if_neg (by omega), if_pos (by decide)]
  have e : putN l 0 = List.replicate 112 0 := by simp [putN]
  rw [← e]
  exact hk
theorem rput_long (l : List Int) (hl : 28 < l.length) : hayrickref13_Put.f 1 l = some ([], 3) := by
  rw [hayrickref13_Put.f, if_pos (by omega)]
theorem rtake_in (k : Nat) (L T : List Int) (i : Nat) (hi : i < 28) (hL : L.length = 112) (hT : T.length ≤ 28) (hx : ∀ x ∈ L, 0 ≤ x ∧ x < 256) :
    hayrickref13_Take.l1 (k + 5) L T (i : Int) 0 0 = hayrickref13_Take.l0 k L (T ++ [wordAt L (4 * i)]) ((i : Int) + 1) := by
  have hw : ∀ j : Int, 0 ≤ j → j ≤ 3 → wrap64 (wrap64 (4 * (i : Int)) + j) = 4 * (i : Int) + j := fun j h0 h3 => by rw [f64 (n := 4 * (i : Int)) (by omega), f64 (by omega)]
  have hr : ∀ j : Nat, j < 4 → rd L (4 * (i : Int) + (j : Int)) = L.getD (4 * i + j) 0 := fun j hj => by unfold rd; rw [show (4 * (i : Int) + (j : Int)).toNat = 4 * i + j from by omega]
  have hb : ∀ j : Nat, j < 4 → 0 ≤ L.getD (4 * i + j) 0 ∧ L.getD (4 * i + j) 0 < 256 := fun j hj => hx _ (by rw [List.getD_eq_getElem?_getD, List.getElem?_eq_getElem (by omega)]; exact List.getElem_mem _)
  have r0 := hr 0 (by decide)
  have r1 := hr 1 (by decide)
  have r2 := hr 2 (by decide)
  have r3 := hr 3 (by decide)
  have b0 := hb 0 (by decide)
  have b1 := hb 1 (by decide)
  have b2 := hb 2 (by decide)
  have b3 := hb 3 (by decide)
  unfold wordAt
  simp only [Nat.add_zero] at r0 b0
  generalize L.getD (4 * i) 0 = y0 at r0 b0 ⊢
  generalize L.getD (4 * i + 1) 0 = y1 at r1 b1 ⊢
  generalize L.getD (4 * i + 2) 0 = y2 at r2 b2 ⊢
  generalize L.getD (4 * i + 3) 0 = y3 at r3 b3 ⊢
  rw [hayrickref13_Take.l1, if_pos (by decide), hw 0 (by decide) (by decide), if_pos (by omega), if_pos (by rw [hL]; omega), show rd L (4 * (i : Int) + 0) = y0 from r0, show wrap64 ((0 : Int) + 1) = 1 from f64 (by decide)]
  rw [hayrickref13_Take.l1, if_pos (by decide), hw 1 (by decide) (by decide), if_pos (by omega), if_pos (by rw [hL]; omega), show rd L (4 * (i : Int) + 1) = y1 from r1, show wrap64 ((1 : Int) + 1) = 2 from f64 (by decide)]
  rw [hayrickref13_Take.l1, if_pos (by decide), hw 2 (by decide) (by decide), if_pos (by omega), if_pos (by rw [hL]; omega), show rd L (4 * (i : Int) + 2) = y2 from r2, show wrap64 ((2 : Int) + 1) = 3 from f64 (by decide)]
  rw [hayrickref13_Take.l1, if_pos (by decide), hw 3 (by decide) (by decide), if_pos (by omega), if_pos (by rw [hL]; omega), show rd L (4 * (i : Int) + 3) = y3 from r3, show wrap64 ((3 : Int) + 1) = 4 from f64 (by decide)]
  rw [hayrickref13_Take.l1, if_neg (by decide), if_pos (by omega), f64 (n := (i : Int) + 1) (by omega)]
  have e : (256 * ((256 * ((256 * ((256 * 0 % 4294967296 + y0 % 4294967296) % 4294967296) % 4294967296 + y1 % 4294967296) % 4294967296) % 4294967296 + y2 % 4294967296) % 4294967296) % 4294967296 + y3 % 4294967296) % 4294967296 = be4 y0 y1 y2 y3 := by
    unfold be4; omega
  rw [e]
theorem chAt_val (k : Nat) (h : k < 28) : (chAt k).1 = 4 * k := by unfold chAt; rw [dif_pos (by omega)]
theorem rtake_run (L : List Int) (hL : L.length = 112) (hx : ∀ x ∈ L, 0 ≤ x ∧ x < 256) : ∀ (d i : Nat), i + d = 28 → ∃ k, hayrickref13_Take.l0 k L ((chTo i).map fun x => wordAt L x.1) (i : Int) = some ((chTo 28).map fun x => wordAt L x.1, 0)
  | 0, i, h => ⟨1, by rw [hayrickref13_Take.l0, if_neg (by omega), show i = 28 from h]⟩
  | d + 1, i, h => by
    obtain ⟨k, hk⟩ := rtake_run L hL hx d (i + 1) (by omega)
    refine ⟨k + 5 + 1, ?_⟩
    rw [hayrickref13_Take.l0, if_pos (by omega), rtake_in k L _ i (by omega) hL (by rw [List.length_map, chTo_length]; omega) hx]
    rw [Int.natCast_add, chTo_succ, List.map_append, List.map_cons, List.map_nil, chAt_val i (by omega)] at hk
    exact hk
theorem rtake_f (L : List Int) (hL : L.length = 112) (hx : ∀ x ∈ L, 0 ≤ x ∧ x < 256) : ∃ k, hayrickref13_Take.f k L = some ((chTo 28).map fun x => wordAt L x.1, 0) := by
  obtain ⟨k, hk⟩ := rtake_run L hL hx 28 0 (by omega)
  refine ⟨k, ?_⟩
  rw [hayrickref13_Take.f, if_neg (by omega), if_neg (by omega)]
  exact hk
theorem at_both (b : Int) (h : -9223372036854775808 ≤ b ∧ b ≤ 9223372036854775807) : ∃ r1 r2 r3, points_At.f 5 b = some (r1, r2, r3) ∧ hayrickref13_At.f 5 b = some (r1, r2, r3) := by
  by_cases h0 : b < 0
  · exact ⟨false, 0, false, by rw [points_At.f, if_pos h0]; rfl, by rw [hayrickref13_At.f, if_neg (by omega)]; simp only [hayrickref13_At.j0, Bool.false_eq_true, if_false]; rw [if_neg (by omega)]⟩
  · by_cases h6 : b < 6
    · refine ⟨true, b, true, ?_, ?_⟩
      · rw [points_At.f, if_neg h0, decide_eq_false (by omega)]; simp only [points_At.j0, Bool.false_eq_true, if_false, if_pos h6]
      · rw [hayrickref13_At.f, if_pos (by omega), decide_eq_true (by omega)]; rfl
    · by_cases h34 : b < 34
      · refine ⟨false, b - 6, true, ?_, ?_⟩
        · rw [points_At.f, if_neg h0, decide_eq_false (by omega)]; simp only [points_At.j0, Bool.false_eq_true, if_false, if_neg h6]; rw [f64 (by omega)]
        · rw [hayrickref13_At.f, if_pos (by omega), decide_eq_false (by omega)]; simp only [hayrickref13_At.j0, Bool.false_eq_true, if_false]; rw [if_pos (by omega), if_pos (by omega), f64 (by omega)]
      · refine ⟨false, 0, false, ?_, ?_⟩
        · rw [points_At.f, if_neg h0, decide_eq_true (by omega)]; rfl
        · rw [hayrickref13_At.f, if_pos (by omega), decide_eq_false (by omega)]; simp only [hayrickref13_At.j0, Bool.false_eq_true, if_false]; rw [if_pos (by omega), if_neg (by omega)]
end Go.Proofs.YtjpjjddkbohbpaaX
