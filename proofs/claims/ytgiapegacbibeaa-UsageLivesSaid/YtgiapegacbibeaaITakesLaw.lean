/- InodeTakes: the document's Take. -/
import Derived.Test.YtgiapegacbibeaaIAny
import Derived.Test.YtgiapegacbibeaaIRefMay
namespace Go.Proofs.YtgiapegacbibeaaX
open Go.RowKit Go.Proofs.YtgiapegacbibeaaW.PrintWords
set_option linter.unusedVariables false
theorem cons_of {L : List Int} {n : Nat} (h : L.length = n + 1) : ∃ y R, L = y :: R ∧ R.length = n := by
  match L, h with
  | y :: R, h => exact ⟨y, R, rfl, by simpa using h⟩
set_option maxHeartbeats 1000000 in
set_option maxRecDepth 10000 in
theorem enc_head (L : List Int) (h : L.length = 112) (hb : ∀ x ∈ L, 0 ≤ x ∧ x < 256) : encI (accN L 2) (accN (L.drop 2) 1) (accN (L.drop 4) 2) (accN (L.drop 3) 1) (accN (L.drop 6) 4 % 4294967296) (accN (L.drop 10) 4 % 4294967296) (accN (L.drop 14) 4 % 4294967296) (accN (L.drop 18) 4 % 4294967296) (accN (L.drop 22) 4 % 4294967296) (accN (L.drop 26) 4 % 4294967296) (accN (L.drop 30) 4 % 4294967296) = L.take 34 ++ List.replicate 78 0 := by
  obtain ⟨y0, R0, rfl, h0⟩ := cons_of h
  obtain ⟨y1, R1, rfl, h1⟩ := cons_of h0
  obtain ⟨y2, R2, rfl, h2⟩ := cons_of h1
  obtain ⟨y3, R3, rfl, h3⟩ := cons_of h2
  obtain ⟨y4, R4, rfl, h4⟩ := cons_of h3
  obtain ⟨y5, R5, rfl, h5⟩ := cons_of h4
  obtain ⟨y6, R6, rfl, h6⟩ := cons_of h5
  obtain ⟨y7, R7, rfl, h7⟩ := cons_of h6
  obtain ⟨y8, R8, rfl, h8⟩ := cons_of h7
  obtain ⟨y9, R9, rfl, h9⟩ := cons_of h8
  obtain ⟨y10, R10, rfl, h10⟩ := cons_of h9
  obtain ⟨y11, R11, rfl, h11⟩ := cons_of h10
  obtain ⟨y12, R12, rfl, h12⟩ := cons_of h11
  obtain ⟨y13, R13, rfl, h13⟩ := cons_of h12
  obtain ⟨y14, R14, rfl, h14⟩ := cons_of h13
  obtain ⟨y15, R15, rfl, h15⟩ := cons_of h14
  obtain ⟨y16, R16, rfl, h16⟩ := cons_of h15
  obtain ⟨y17, R17, rfl, h17⟩ := cons_of h16
  obtain ⟨y18, R18, rfl, h18⟩ := cons_of h17
  obtain ⟨y19, R19, rfl, h19⟩ := cons_of h18
  obtain ⟨y20, R20, rfl, h20⟩ := cons_of h19
  obtain ⟨y21, R21, rfl, h21⟩ := cons_of h20
  obtain ⟨y22, R22, rfl, h22⟩ := cons_of h21
  obtain ⟨y23, R23, rfl, h23⟩ := cons_of h22
  obtain ⟨y24, R24, rfl, h24⟩ := cons_of h23
  obtain ⟨y25, R25, rfl, h25⟩ := cons_of h24
  obtain ⟨y26, R26, rfl, h26⟩ := cons_of h25
  obtain ⟨y27, R27, rfl, h27⟩ := cons_of h26
  obtain ⟨y28, R28, rfl, h28⟩ := cons_of h27
  obtain ⟨y29, R29, rfl, h29⟩ := cons_of h28
  obtain ⟨y30, R30, rfl, h30⟩ := cons_of h29
  obtain ⟨y31, R31, rfl, h31⟩ := cons_of h30
  obtain ⟨y32, R32, rfl, h32⟩ := cons_of h31
  obtain ⟨y33, R33, rfl, h33⟩ := cons_of h32
  have b0 := hb y0 (by simp)
  have b1 := hb y1 (by simp)
  have b2 := hb y2 (by simp)
  have b3 := hb y3 (by simp)
  have b4 := hb y4 (by simp)
  have b5 := hb y5 (by simp)
  have b6 := hb y6 (by simp)
  have b7 := hb y7 (by simp)
  have b8 := hb y8 (by simp)
  have b9 := hb y9 (by simp)
  have b10 := hb y10 (by simp)
  have b11 := hb y11 (by simp)
  have b12 := hb y12 (by simp)
  have b13 := hb y13 (by simp)
  have b14 := hb y14 (by simp)
  have b15 := hb y15 (by simp)
  have b16 := hb y16 (by simp)
  have b17 := hb y17 (by simp)
  have b18 := hb y18 (by simp)
  have b19 := hb y19 (by simp)
  have b20 := hb y20 (by simp)
  have b21 := hb y21 (by simp)
  have b22 := hb y22 (by simp)
  have b23 := hb y23 (by simp)
  have b24 := hb y24 (by simp)
  have b25 := hb y25 (by simp)
  have b26 := hb y26 (by simp)
  have b27 := hb y27 (by simp)
  have b28 := hb y28 (by simp)
  have b29 := hb y29 (by simp)
  have b30 := hb y30 (by simp)
  have b31 := hb y31 (by simp)
  have b32 := hb y32 (by simp)
  have b33 := hb y33 (by simp)
  clear hb
  have e0 : (((0 * 256 + y0) * 256 + y1) % 4294967296) / 256 % 256 = y0 := by omega
  have e1 : (((0 * 256 + y0) * 256 + y1) % 4294967296) / 1 % 256 = y1 := by omega
  have e2 : ((0 * 256 + y2) % 4294967296) / 1 % 256 = y2 := by omega
  have e3 : ((0 * 256 + y3) % 4294967296) / 1 % 256 = y3 := by omega
  have e4 : (((0 * 256 + y4) * 256 + y5) % 4294967296) / 256 % 256 = y4 := by omega
  have e5 : (((0 * 256 + y4) * 256 + y5) % 4294967296) / 1 % 256 = y5 := by omega
  have e6 : (((((0 * 256 + y6) * 256 + y7) * 256 + y8) * 256 + y9) % 4294967296) / 16777216 % 256 = y6 := by omega
  have e7 : (((((0 * 256 + y6) * 256 + y7) * 256 + y8) * 256 + y9) % 4294967296) / 65536 % 256 = y7 := by omega
  have e8 : (((((0 * 256 + y6) * 256 + y7) * 256 + y8) * 256 + y9) % 4294967296) / 256 % 256 = y8 := by omega
  have e9 : (((((0 * 256 + y6) * 256 + y7) * 256 + y8) * 256 + y9) % 4294967296) / 1 % 256 = y9 := by omega
  have e10 : (((((0 * 256 + y10) * 256 + y11) * 256 + y12) * 256 + y13) % 4294967296) / 16777216 % 256 = y10 := by omega
  have e11 : (((((0 * 256 + y10) * 256 + y11) * 256 + y12) * 256 + y13) % 4294967296) / 65536 % 256 = y11 := by omega
  have e12 : (((((0 * 256 + y10) * 256 + y11) * 256 + y12) * 256 + y13) % 4294967296) / 256 % 256 = y12 := by omega
  have e13 : (((((0 * 256 + y10) * 256 + y11) * 256 + y12) * 256 + y13) % 4294967296) / 1 % 256 = y13 := by omega
  have e14 : (((((0 * 256 + y14) * 256 + y15) * 256 + y16) * 256 + y17) % 4294967296) / 16777216 % 256 = y14 := by omega
  have e15 : (((((0 * 256 + y14) * 256 + y15) * 256 + y16) * 256 + y17) % 4294967296) / 65536 % 256 = y15 := by omega
  have e16 : (((((0 * 256 + y14) * 256 + y15) * 256 + y16) * 256 + y17) % 4294967296) / 256 % 256 = y16 := by omega
  have e17 : (((((0 * 256 + y14) * 256 + y15) * 256 + y16) * 256 + y17) % 4294967296) / 1 % 256 = y17 := by omega
  have e18 : (((((0 * 256 + y18) * 256 + y19) * 256 + y20) * 256 + y21) % 4294967296) / 16777216 % 256 = y18 := by omega
  have e19 : (((((0 * 256 + y18) * 256 + y19) * 256 + y20) * 256 + y21) % 4294967296) / 65536 % 256 = y19 := by omega
  have e20 : (((((0 * 256 + y18) * 256 + y19) * 256 + y20) * 256 + y21) % 4294967296) / 256 % 256 = y20 := by omega
  have e21 : (((((0 * 256 + y18) * 256 + y19) * 256 + y20) * 256 + y21) % 4294967296) / 1 % 256 = y21 := by omega
  have e22 : (((((0 * 256 + y22) * 256 + y23) * 256 + y24) * 256 + y25) % 4294967296) / 16777216 % 256 = y22 := by omega
  have e23 : (((((0 * 256 + y22) * 256 + y23) * 256 + y24) * 256 + y25) % 4294967296) / 65536 % 256 = y23 := by omega
  have e24 : (((((0 * 256 + y22) * 256 + y23) * 256 + y24) * 256 + y25) % 4294967296) / 256 % 256 = y24 := by omega
  have e25 : (((((0 * 256 + y22) * 256 + y23) * 256 + y24) * 256 + y25) % 4294967296) / 1 % 256 = y25 := by omega
  have e26 : (((((0 * 256 + y26) * 256 + y27) * 256 + y28) * 256 + y29) % 4294967296) / 16777216 % 256 = y26 := by omega
  have e27 : (((((0 * 256 + y26) * 256 + y27) * 256 + y28) * 256 + y29) % 4294967296) / 65536 % 256 = y27 := by omega
  have e28 : (((((0 * 256 + y26) * 256 + y27) * 256 + y28) * 256 + y29) % 4294967296) / 256 % 256 = y28 := by omega
  have e29 : (((((0 * 256 + y26) * 256 + y27) * 256 + y28) * 256 + y29) % 4294967296) / 1 % 256 = y29 := by omega
  have e30 : (((((0 * 256 + y30) * 256 + y31) * 256 + y32) * 256 + y33) % 4294967296) / 16777216 % 256 = y30 := by omega
  have e31 : (((((0 * 256 + y30) * 256 + y31) * 256 + y32) * 256 + y33) % 4294967296) / 65536 % 256 = y31 := by omega
  have e32 : (((((0 * 256 + y30) * 256 + y31) * 256 + y32) * 256 + y33) % 4294967296) / 256 % 256 = y32 := by omega
  have e33 : (((((0 * 256 + y30) * 256 + y31) * 256 + y32) * 256 + y33) % 4294967296) / 1 % 256 = y33 := by omega
  show [(((0 * 256 + y0) * 256 + y1) % 4294967296) / 256 % 256, (((0 * 256 + y0) * 256 + y1) % 4294967296) / 1 % 256, ((0 * 256 + y2) % 4294967296) / 1 % 256, ((0 * 256 + y3) % 4294967296) / 1 % 256, (((0 * 256 + y4) * 256 + y5) % 4294967296) / 256 % 256, (((0 * 256 + y4) * 256 + y5) % 4294967296) / 1 % 256, (((((0 * 256 + y6) * 256 + y7) * 256 + y8) * 256 + y9) % 4294967296) / 16777216 % 256, (((((0 * 256 + y6) * 256 + y7) * 256 + y8) * 256 + y9) % 4294967296) / 65536 % 256, (((((0 * 256 + y6) * 256 + y7) * 256 + y8) * 256 + y9) % 4294967296) / 256 % 256, (((((0 * 256 + y6) * 256 + y7) * 256 + y8) * 256 + y9) % 4294967296) / 1 % 256, (((((0 * 256 + y10) * 256 + y11) * 256 + y12) * 256 + y13) % 4294967296) / 16777216 % 256, (((((0 * 256 + y10) * 256 + y11) * 256 + y12) * 256 + y13) % 4294967296) / 65536 % 256, (((((0 * 256 + y10) * 256 + y11) * 256 + y12) * 256 + y13) % 4294967296) / 256 % 256, (((((0 * 256 + y10) * 256 + y11) * 256 + y12) * 256 + y13) % 4294967296) / 1 % 256, (((((0 * 256 + y14) * 256 + y15) * 256 + y16) * 256 + y17) % 4294967296) / 16777216 % 256, (((((0 * 256 + y14) * 256 + y15) * 256 + y16) * 256 + y17) % 4294967296) / 65536 % 256, (((((0 * 256 + y14) * 256 + y15) * 256 + y16) * 256 + y17) % 4294967296) / 256 % 256, (((((0 * 256 + y14) * 256 + y15) * 256 + y16) * 256 + y17) % 4294967296) / 1 % 256, (((((0 * 256 + y18) * 256 + y19) * 256 + y20) * 256 + y21) % 4294967296) / 16777216 % 256, (((((0 * 256 + y18) * 256 + y19) * 256 + y20) * 256 + y21) % 4294967296) / 65536 % 256, (((((0 * 256 + y18) * 256 + y19) * 256 + y20) * 256 + y21) % 4294967296) / 256 % 256, (((((0 * 256 + y18) * 256 + y19) * 256 + y20) * 256 + y21) % 4294967296) / 1 % 256, (((((0 * 256 + y22) * 256 + y23) * 256 + y24) * 256 + y25) % 4294967296) / 16777216 % 256, (((((0 * 256 + y22) * 256 + y23) * 256 + y24) * 256 + y25) % 4294967296) / 65536 % 256, (((((0 * 256 + y22) * 256 + y23) * 256 + y24) * 256 + y25) % 4294967296) / 256 % 256, (((((0 * 256 + y22) * 256 + y23) * 256 + y24) * 256 + y25) % 4294967296) / 1 % 256, (((((0 * 256 + y26) * 256 + y27) * 256 + y28) * 256 + y29) % 4294967296) / 16777216 % 256, (((((0 * 256 + y26) * 256 + y27) * 256 + y28) * 256 + y29) % 4294967296) / 65536 % 256, (((((0 * 256 + y26) * 256 + y27) * 256 + y28) * 256 + y29) % 4294967296) / 256 % 256, (((((0 * 256 + y26) * 256 + y27) * 256 + y28) * 256 + y29) % 4294967296) / 1 % 256, (((((0 * 256 + y30) * 256 + y31) * 256 + y32) * 256 + y33) % 4294967296) / 16777216 % 256, (((((0 * 256 + y30) * 256 + y31) * 256 + y32) * 256 + y33) % 4294967296) / 65536 % 256, (((((0 * 256 + y30) * 256 + y31) * 256 + y32) * 256 + y33) % 4294967296) / 256 % 256, (((((0 * 256 + y30) * 256 + y31) * 256 + y32) * 256 + y33) % 4294967296) / 1 % 256] ++ List.replicate 78 0 = [y0, y1, y2, y3, y4, y5, y6, y7, y8, y9, y10, y11, y12, y13, y14, y15, y16, y17, y18, y19, y20, y21, y22, y23, y24, y25, y26, y27, y28, y29, y30, y31, y32, y33] ++ List.replicate 78 0
  rw [e0, e1, e2, e3, e4, e5, e6, e7, e8, e9, e10, e11, e12, e13, e14, e15, e16, e17, e18, e19, e20, e21, e22, e23, e24, e25, e26, e27, e28, e29, e30, e31, e32, e33]
/-- What the document's Take answers. -/
def refR (L : List Int) : Array Value × Int :=
  if L.length < 112 then (inoCells 0 0 0 0 0 0 0 0 0 0 0, 4) else if 112 < L.length then (inoCells 0 0 0 0 0 0 0 0 0 0 0, 3) else if ((L.drop 34).all (fun x => x == 0) && mayB (accN L 2) (accN (L.drop 2) 1) (accN (L.drop 4) 2) (accN (L.drop 3) 1) [(accN (L.drop 6) 4 % 4294967296), (accN (L.drop 10) 4 % 4294967296), (accN (L.drop 14) 4 % 4294967296), (accN (L.drop 18) 4 % 4294967296), (accN (L.drop 22) 4 % 4294967296), (accN (L.drop 26) 4 % 4294967296)] (accN (L.drop 30) 4 % 4294967296)) = true then (inoCells (accN L 2) (accN (L.drop 2) 1) (accN (L.drop 4) 2) (accN (L.drop 3) 1) (accN (L.drop 6) 4 % 4294967296) (accN (L.drop 10) 4 % 4294967296) (accN (L.drop 14) 4 % 4294967296) (accN (L.drop 18) 4 % 4294967296) (accN (L.drop 22) 4 % 4294967296) (accN (L.drop 26) 4 % 4294967296) (accN (L.drop 30) 4 % 4294967296), 0) else (inoCells 0 0 0 0 0 0 0 0 0 0 0, 5)
theorem all_zero {R : List Int} {n : Nat} (h : R.length = n) : R.all (fun x => x == 0) = decide (R = List.replicate n 0) := by
  subst h
  induction R with
  | nil => rfl
  | cons x R ih =>
    rw [List.all_cons, ih, List.length_cons, List.replicate_succ]
    by_cases hx : x = 0
    · subst hx; simp
    · simp [hx]
theorem take_ref (L : List Int) (hb : ∀ x ∈ L, 0 ≤ x ∧ x < 256) : takeR L = refR L := by
  unfold takeR refR
  by_cases h1 : L.length < 112
  · rw [if_pos h1, if_pos h1]
  · rw [if_neg h1, if_neg h1]
    by_cases h2 : 112 < L.length
    · rw [if_pos h2, if_pos h2]
    · rw [if_neg h2, if_neg h2]
      have h3 : L.length = 112 := by omega
      have he : decide (encI (accN L 2) (accN (L.drop 2) 1) (accN (L.drop 4) 2) (accN (L.drop 3) 1) (accN (L.drop 6) 4 % 4294967296) (accN (L.drop 10) 4 % 4294967296) (accN (L.drop 14) 4 % 4294967296) (accN (L.drop 18) 4 % 4294967296) (accN (L.drop 22) 4 % 4294967296) (accN (L.drop 26) 4 % 4294967296) (accN (L.drop 30) 4 % 4294967296) = L) = (L.drop 34).all (fun x => x == 0) := by
        rw [enc_head L h3 hb, all_zero (n := 78) (by rw [List.length_drop]; omega)]
        congr 1
        apply propext
        constructor
        · intro h
          have := congrArg (List.drop 34) h
          rw [List.drop_append_of_le_length (by rw [List.length_take]; omega), List.drop_of_length_le (by rw [List.length_take]; omega), List.nil_append] at this
          exact this.symm
        · intro h
          rw [← h, List.take_append_drop]
      rw [he, Bool.and_comm]
theorem val_run (L : List Int) (hL : L.length = 112) (hb : ∀ j, 0 ≤ L.getD j 0 ∧ L.getD j 0 < 256) (o z : Nat) (hz : o + z ≤ 112) (hz4 : z ≤ 4) :
    ∀ (d j : Nat), j + d = z → Go.Proofs.Ytgiapegacbibeaa.PUsageLives.hayrickref11_val.l0 (d + 1) L (o : Int) (z : Int) (accN (L.drop o) j) ((o : Int) + (j : Int)) = some (accN (L.drop o) z)
  | 0, j, h => by
    rw [Go.Proofs.Ytgiapegacbibeaa.PUsageLives.hayrickref11_val.l0, IntWalk.wrap64_in _ (by omega), if_neg (by omega), show j = z from h]
  | d + 1, j, h => by
    have hd : ∀ i, (L.drop o).getD i 0 = L.getD (o + i) 0 := fun i => by simp [List.getD_eq_getElem?_getD, List.getElem?_drop]
    have hacc := accN_bound (L := L.drop o) (fun i => by rw [hd]; exact hb _) j
    have hp : (256 : Int) ^ j ≤ 16777216 := by
      have : j = 0 ∨ j = 1 ∨ j = 2 ∨ j = 3 := by omega
      rcases this with rfl | rfl | rfl | rfl <;> decide
    have hr : rd L ((o : Int) + (j : Int)) = L.getD (o + j) 0 := by unfold rd; rw [show ((o : Int) + (j : Int)).toNat = o + j from by omega]
    have hy := hb (o + j)
    rw [Go.Proofs.Ytgiapegacbibeaa.PUsageLives.hayrickref11_val.l0, IntWalk.wrap64_in ((o : Int) + (z : Int)) (by omega), if_pos (by omega), if_pos (by omega), if_pos (by omega), hr,
      IntWalk.u64_in (256 * accN (L.drop o) j) (by omega), IntWalk.u64_in (L.getD (o + j) 0) (by omega), IntWalk.u64_in _ (by omega), IntWalk.wrap64_in ((o : Int) + (j : Int) + 1) (by omega)]
    have := val_run L hL hb o z hz hz4 d (j + 1) (by omega)
    rw [show accN (L.drop o) (j + 1) = 256 * accN (L.drop o) j + L.getD (o + j) 0 from by simp only [accN]; rw [hd]; omega, Int.natCast_add] at this
    rw [Int.add_assoc]
    exact this
theorem val_any (A : Option Addr) (c : Nat) (L : List Int) (w : World) (hr : ReadsInt w .u8 A 112 L) (hc : 112 ≤ c) (hb : ∀ j, 0 ≤ L.getD j 0 ∧ L.getD j 0 < 256) (o z : Nat) (oi zi : Int) (ho : oi = o) (hzi : zi = z) (hz : o + z ≤ 112) (hz4 : z ≤ 4) :
    Calls Try.prog 46 #[.slice A 112 c, .int .i64 oi, .int .i64 zi] w fun e w' => e = .returned (.int .u64 (accN (L.drop o) z)) ∧ Drawn0 w w' := by
  subst ho hzi
  have hL : L.length = 112 := hr.1
  have h := val_run L hL hb o z hz hz4 z 0 (by omega)
  rw [show ((o : Int) + ((0 : Nat) : Int)) = (o : Int) from by omega] at h
  have := Go.Proofs.Ytgiapegacbibeaa.PUsageLives.hayrickref11_val.calls (z + 1) A c L o z (accN (L.drop o) z) w (Kd.C_of_reads (enc := Value.int .u8) (d := (0 : Int)) (h1 := fun _ => rfl) (hL.symm ▸ hr)) (hL.symm ▸ hc) h
  rw [hL] at this
  exact this
end Go.Proofs.YtgiapegacbibeaaX
