/- inode.Put and Take, any. -/
import Derived.Test.YtgiapegacbibeaaITake
import Derived.Test.YtgiapegacbibeaaPtr
import Derived.Test.YtgiapegacbibeaaInoEq
namespace Go.Proofs.YtgiapegacbibeaaX
open Go.RowKit Go.Proofs.YtgiapegacbibeaaW.PrintWords
set_option linter.unusedVariables false
/-- A result of Take: the inode's cells, the error. -/
def takeR (L : List Int) : Array Value × Int :=
  if L.length < 112 then (inoCells 0 0 0 0 0 0 0 0 0 0 0, 4) else if 112 < L.length then (inoCells 0 0 0 0 0 0 0 0 0 0 0, 3) else if (mayB (accN L 2) (accN (L.drop 2) 1) (accN (L.drop 4) 2) (accN (L.drop 3) 1) [(accN (L.drop 6) 4 % 4294967296), (accN (L.drop 10) 4 % 4294967296), (accN (L.drop 14) 4 % 4294967296), (accN (L.drop 18) 4 % 4294967296), (accN (L.drop 22) 4 % 4294967296), (accN (L.drop 26) 4 % 4294967296)] (accN (L.drop 30) 4 % 4294967296) && decide (encI (accN L 2) (accN (L.drop 2) 1) (accN (L.drop 4) 2) (accN (L.drop 3) 1) (accN (L.drop 6) 4 % 4294967296) (accN (L.drop 10) 4 % 4294967296) (accN (L.drop 14) 4 % 4294967296) (accN (L.drop 18) 4 % 4294967296) (accN (L.drop 22) 4 % 4294967296) (accN (L.drop 26) 4 % 4294967296) (accN (L.drop 30) 4 % 4294967296) = L)) = true then (inoCells (accN L 2) (accN (L.drop 2) 1) (accN (L.drop 4) 2) (accN (L.drop 3) 1) (accN (L.drop 6) 4 % 4294967296) (accN (L.drop 10) 4 % 4294967296) (accN (L.drop 14) 4 % 4294967296) (accN (L.drop 18) 4 % 4294967296) (accN (L.drop 22) 4 % 4294967296) (accN (L.drop 26) 4 % 4294967296) (accN (L.drop 30) 4 % 4294967296), 0) else (inoCells 0 0 0 0 0 0 0 0 0 0 0, 5)
theorem accN2_small {L : List Int} (h : ∀ x ∈ L, 0 ≤ x ∧ x < 256) : accN L 2 ≤ 9223372036854775807 := by
  have hj : ∀ j, 0 ≤ L.getD j 0 ∧ L.getD j 0 < 256 := by
    intro j
    by_cases hl : j < L.length
    · rw [List.getD_eq_getElem?_getD, List.getElem?_eq_getElem hl]; exact h _ (List.getElem_mem _)
    · rw [List.getD_eq_getElem?_getD, List.getElem?_eq_none (by omega)]; decide
  have := accN_bound hj 2
  have e : (256 : Int) ^ 2 = 65536 := by decide
  omega
theorem itake_any (A : Option Addr) (n c : Nat) (L : List Int) (w : World) (hc : n ≤ c) (hc63 : c ≤ 9223372036854775807) (hr : ReadsInt w .u8 A n L) (hby : ∀ x ∈ L, 0 ≤ x ∧ x < 256) :
    Calls Try.prog 27 #[.slice A n c] w fun e w' => e = .returned (.tuple #[.agg (takeR L).1, .int .i64 (takeR L).2]) ∧ Below w.heap.size w w' := by
  obtain rfl : L.length = n := hr.1
  unfold takeR
  by_cases h1 : L.length < 112
  · rw [if_pos h1]; exact itake_short A _ c w h1 hr.2.1
  · rw [if_neg h1]
    by_cases h2 : 112 < L.length
    · rw [if_pos h2]; exact itake_long A _ c w h2 hr.2.1
    · rw [if_neg h2]
      have h3 : L.length = 112 := by omega
      obtain ⟨ad, rfl, _⟩ := hr.2.2 (by omega)
      rw [h3] at hr hc ⊢
      have := itake_yes ad c L w _ _ hc hc63 hr hby (accN2_small (fun x hx => hby x (List.mem_of_mem_drop hx))) rfl (fun _ => rfl)
      refine this.mono ?_
      rintro e w' ⟨rfl, hb⟩
      refine ⟨?_, hb⟩
      by_cases h4 : (mayB (accN L 2) (accN (L.drop 2) 1) (accN (L.drop 4) 2) (accN (L.drop 3) 1) [(accN (L.drop 6) 4 % 4294967296), (accN (L.drop 10) 4 % 4294967296), (accN (L.drop 14) 4 % 4294967296), (accN (L.drop 18) 4 % 4294967296), (accN (L.drop 22) 4 % 4294967296), (accN (L.drop 26) 4 % 4294967296)] (accN (L.drop 30) 4 % 4294967296) && decide (encI (accN L 2) (accN (L.drop 2) 1) (accN (L.drop 4) 2) (accN (L.drop 3) 1) (accN (L.drop 6) 4 % 4294967296) (accN (L.drop 10) 4 % 4294967296) (accN (L.drop 14) 4 % 4294967296) (accN (L.drop 18) 4 % 4294967296) (accN (L.drop 22) 4 % 4294967296) (accN (L.drop 26) 4 % 4294967296) (accN (L.drop 30) 4 % 4294967296) = L)) = true
      · rw [if_pos h4, if_pos h4]
      · rw [if_neg h4, if_neg h4]
theorem own_some {W : World} {base n : Nat} {e : TypeId} {k : IntKind} {v : Value} {xs : List Int} (h : W.ownsRow base e 1 v n (nums k xs)) (hn : 0 < n) :
    ∃ ad c, v = .slice (some ad) n c ∧ ReadsInt W k (some ad) n xs ∧ n ≤ c ∧ c ≤ 9223372036854775807 := by
  obtain ⟨A, c, rfl, hr⟩ := own_reads h
  have hc := own_le h
  obtain ⟨ad, rfl, _⟩ := hr.2.2 hn
  refine ⟨ad, c, rfl, hr, hc, ?_⟩
  rcases h.2 with ⟨he, _⟩ | ⟨g2, c2, cur, he, _, _, _, hm, _⟩
  · cases he
  · cases he; simpa [maxLen] using hm
theorem iput_rd (a k s l d0 d1 d2 d3 d4 d5 p : Int) (w : World) (hs : s ≤ 9223372036854775807) (hm : mayB a k s l [d0, d1, d2, d3, d4, d5] p = true) (hx : (0 ≤ d0 ∧ d0 < 4294967296) ∧ (0 ≤ d1 ∧ d1 < 4294967296) ∧ (0 ≤ d2 ∧ d2 < 4294967296) ∧ (0 ≤ d3 ∧ d3 < 4294967296) ∧ (0 ≤ d4 ∧ d4 < 4294967296) ∧ (0 ≤ d5 ∧ d5 < 4294967296) ∧ (0 ≤ p ∧ p < 4294967296)) (E : List Int) (hE : encI a k s l d0 d1 d2 d3 d4 d5 p = E) :
    Calls Try.prog 20 #[.agg (inoCells a k s l d0 d1 d2 d3 d4 d5 p)] w fun e w' => ∃ ad c, e = .returned (.tuple #[.slice (some ad) 112 c, .int .i64 0]) ∧ ReadsInt w' .u8 (some ad) 112 E ∧ 112 ≤ c ∧ c ≤ 9223372036854775807 ∧ Below w.heap.size w w' := by
  subst hE
  refine (iput_yes a k s l d0 d1 d2 d3 d4 d5 p w hs hm hx).mono ?_
  rintro e w' ⟨v, rfl, ho, hb⟩
  obtain ⟨ad, c, rfl, h1, h2, h3⟩ := own_some ho (by decide)
  exact ⟨ad, c, rfl, h1, h2, h3, hb⟩
theorem reads_prefix {W : World} {k : IntKind} {A : Option Addr} {n m : Nat} {xs : List Int} (h : ReadsInt W k A n xs) (hm : m ≤ n) : ReadsInt W k A m (xs.take m) := by
  refine ⟨by rw [List.length_take, h.1]; omega, by have := h.2.1; omega, fun hp => ?_⟩
  obtain ⟨ad, rfl, hc⟩ := h.2.2 (by omega)
  refine ⟨ad, rfl, fun j hj => ?_⟩
  rw [hc j (by omega)]
  simp [List.getD_eq_getElem?_getD, hj]
end Go.Proofs.YtgiapegacbibeaaX
