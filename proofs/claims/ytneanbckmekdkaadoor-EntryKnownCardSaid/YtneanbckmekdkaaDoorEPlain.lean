/- Plain: what Put lays, Take finds. -/
import Derived.Test.YtneanbckmekdkaaDoorETake
namespace Go.Proofs.YtneanbckmekdkaaDoor.EN
open Go Go.RowKit Go.Proofs.YtneanbckmekdkaaDoor.NM Go.Proofs.YtneanbckmekdkaaDoorW.PrintWords Go.Proofs.YtneanbckmekdkaaDoor.PEntryForms
set_option linter.unusedVariables false
set_option linter.unusedSimpArgs false
theorem str_bytes (s : ByteArray) : strOfNums (bytesOf s) = s := by
  have h : (strOfNums (bytesOf s)).data.toList = s.data.toList := by
    rw [strOfNums_data, bytesOf, List.map_map]
    conv => rhs; rw [← List.map_id s.data.toList]
    refine List.map_congr_left (fun x _ => ?_)
    simp
  have h2 : (strOfNums (bytesOf s)).data = s.data := by rw [← Array.toList_inj]; exact h
  cases s
  simpa using ByteArray.ext h2
theorem putL_append (a b : List S42) : putL (a ++ b) = putL a ++ putL b := by simp [putL]
theorem putL_drop {l : List S42} (h : ∀ x ∈ l, x.f1.size ≤ 24) {i : Nat} (hi : i < l.length) : (putL l).drop (28 * i) = encE l[i] ++ putL (l.drop (i + 1)) := by
  have h1 : putL l = putL (l.take i) ++ putL (l.drop i) := by rw [← putL_append, List.take_append_drop]
  have h2 := putL_length (l.take i) (fun x hx => h x (List.mem_of_mem_take hx))
  rw [List.length_take, Nat.min_eq_left (by omega)] at h2
  rw [h1, List.drop_append, List.drop_of_length_le (by omega), List.nil_append, h2, Nat.sub_self, List.drop_zero, List.drop_eq_getElem_cons hi, putL, List.flatMap_cons]
  rfl
theorem getD_drop (L : List Int) (m j : Nat) : L.getD (m + j) 0 = (L.drop m).getD j 0 := by
  rw [List.getD_eq_getElem?_getD, List.getD_eq_getElem?_getD, List.getElem?_drop]
theorem ent_put {l : List S42} (h : ∀ x ∈ l, x.f1.size ≤ 24) {i : Nat} (hi : i < l.length) : entAt (putL l) (28 * i) = l[i] ∧ okPart (putL l) (28 * i) = true := by
  have hd := putL_drop h hi
  have hz := h _ (List.getElem_mem hi)
  obtain ⟨x, hx⟩ : ∃ x, l[i] = x := ⟨_, rfl⟩
  rw [hx] at hd hz
  obtain ⟨rest, hrest⟩ : ∃ r, putL (l.drop (i + 1)) = r := ⟨_, rfl⟩
  rw [hrest] at hd
  have hd' : (putL l).drop (28 * i) = 0 :: x.f0 :: (x.f1.size : Int) :: (bytesOf x.f1 ++ (List.replicate (25 - x.f1.size) 0 ++ rest)) := by
    rw [hd, encE]; simp
  have g0 : (putL l).getD (28 * i) 0 = 0 := by
    have := getD_drop (putL l) (28 * i) 0
    rw [Nat.add_zero] at this
    rw [this, hd']; rfl
  have g1 : (putL l).getD (28 * i + 1) 0 = x.f0 := by rw [getD_drop, hd']; rfl
  have g2 : (putL l).getD (28 * i + 2) 0 = (x.f1.size : Int) := by rw [getD_drop, hd']; rfl
  have g3 : (putL l).drop (28 * i + 3) = bytesOf x.f1 ++ (List.replicate (25 - x.f1.size) 0 ++ rest) := by rw [← List.drop_drop, hd']; rfl
  constructor
  · unfold entAt
    rw [g0, g1, g2, g3, Int.toNat_natCast, List.take_append_of_le_length (by rw [bytesOf_length]; exact Nat.le_refl _), List.take_of_length_le (by rw [bytesOf_length]; exact Nat.le_refl _), str_bytes, hx]
    have : (256 * 0 + x.f0 : Int) = x.f0 := by omega
    rw [this]
  · unfold okPart
    rw [g2, putL_length l h]
    simp only [Bool.and_eq_true, decide_eq_true_eq]
    omega
theorem chTo_range {n : Nat} : ∀ {k : Nat}, (∀ i, i < k → 28 * i < n) → (chTo n k).map (·.1) = (List.range k).map (28 * ·)
  | 0, _ => rfl
  | k + 1, h => by
    rw [chTo_succ (h k (Nat.lt_succ_self _)), List.map_append, chTo_range (fun i hi => h i (by omega)), List.range_succ, List.map_append]
    rfl
theorem partsOf_map (b : List Int) {n : Nat} (ys : List (Ch n)) : partsOf b ys = (ys.map (·.1)).map (entAt b) := by simp [partsOf]
theorem all_range {b : List Int} {L : Nat} (hb : b.length = 28 * L) : (allE b).map (·.1) = (List.range L).map (28 * ·) := by
  unfold allE
  have : (b.length + 27) / 28 = L := by omega
  rw [this]
  exact chTo_range (fun i hi => by omega)
theorem parts_range {b : List Int} {L : Nat} (hb : b.length = 28 * L) : partsOf b (allE b) = (List.range L).map fun i => entAt b (28 * i) := by
  rw [partsOf_map, all_range hb, List.map_map]
  rfl
/-- THERE AND BACK. -/
theorem take_put {l : List S42} (h : mayE l = true) : takeE (putL l) = some l := by
  have hP := (mayE_iff l).1 h
  have hz := hP.sizes
  have hl := putL_length l hz
  have hp : partsOf (putL l) (allE (putL l)) = l := by
    rw [parts_range hl]
    apply List.ext_getElem
    · simp
    · intro i h1 h2
      rw [List.getElem_map, List.getElem_range]
      exact (ent_put hz h2).1
  have ha : (allE (putL l)).all (fun x => okPart (putL l) x.1) = true := by
    rw [List.all_eq_true]
    intro x hx
    have hm : x.1 ∈ (allE (putL l)).map (·.1) := List.mem_map.2 ⟨x, hx, rfl⟩
    rw [all_range hl] at hm
    obtain ⟨i, hi, e⟩ := List.mem_map.1 hm
    rw [← e]
    exact (ent_put hz (List.mem_range.1 hi)).2
  unfold takeE
  rw [if_pos ha, hp, if_pos ⟨h, rfl⟩]
theorem take_some {b : List Int} {l : List S42} (h : takeE b = some l) : mayE l = true ∧ putL l = b := by
  unfold takeE at h
  split at h
  · split at h
    · cases h; assumption
    · cases h
  · cases h
end Go.Proofs.YtneanbckmekdkaaDoor.EN
