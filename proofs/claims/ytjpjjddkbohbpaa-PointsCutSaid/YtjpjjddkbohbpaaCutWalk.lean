/- PointsCut: the walk. -/
import Derived.Test.YtjpjjddkbohbpaaCutLaw
namespace Go.Proofs.YtjpjjddkbohbpaaX
open Go.RowKit Go.Proofs.YtjpjjddkbohbpaaW.PrintWords Go.Proofs.Ytjpjjddkbohbpaa.PPointsCut
set_option linter.unusedVariables false
theorem rd_cv (LP : List S31) (i : Int) : rd_T30 (LP.map cv) i = cv (rd_T31 LP i) := by
  unfold rd_T30 rd_T31
  rw [List.getD_eq_getElem?_getD, List.getD_eq_getElem?_getD, List.getElem?_map]
  cases LP[i.toNat]? <;> rfl
set_option maxHeartbeats 1000000 in
set_option maxRecDepth 100000 in
theorem cut_walk (wk : ∀ W : World, Calls Try.prog 12 #[] W fun e w' => e = .returned (.bool true) ∧ Below W.heap.size W w')
    (off n : Int) (k : Nat) (LP : List S31) (e0 : Int) (w : World) (hp : points_Cut.f k off n = some (LP, e0)) (hr : hayrickref13_Cut.f k off n = some (LP.map cv, e0)) :
    Calls Try.prog 3 #[.int .i64 off, .int .i64 n] w fun e w' => e = .returned (.bool true) ∧ Below w.heap.size w w' := by
  have hu31 := Try.underlying31
  have hu30 := Try.underlying30
  have HP := Aside0.mk hp
  have HR := Aside0.mk hr
  have WK := Aside0.mk wk
  clear hp hr wk
  go_enter Try.func3, Try.ntmps3
  go_wp2_with (first | (go_at_call 10; refine (points_Cut.calls k off n LP e0 _ HP.out).mono ?_; rintro e w1 ⟨v1, rfl, ho, hb⟩; have HB1 := Aside0.mk hb; have HO1 := Aside0.mk ho; clear hb ho) | (go_at_call 11; refine (hayrickref13_Cut.calls k off n (LP.map cv) e0 _ HR.out).mono ?_; rintro e w2 ⟨v2, rfl, ho, hb⟩; have HB2 := Aside0.mk (below_step HB1.out hb); obtain ⟨A1, c1, rfl, hc1, hr1⟩ := Kd.R_reads (Kd.R_below HO1.out hb); obtain ⟨A2, c2, rfl, hc2, hr2⟩ := Kd.R_reads ho; rw [List.length_map] at hr2 hc2; rw [List.length_map]; have HC1 := Aside0.mk hr1; have HC2 := Aside0.mk hr2; clear hb ho hr1 hr2 HO1))
  have HM := Aside0.mk (Kd.C_max HC1.out)
  go_loopw [9] (fun i wr => ∃ j : Nat, j ≤ LP.length ∧ i = .int .i64 j ∧ Aside0 (Kd.C k31 wr A1 LP.length LP) ∧ Aside0 (Kd.C k30 wr A2 LP.length (LP.map cv)) ∧ Aside0 (Below w.heap.size w wr)) (fun i _ => LP.length - (intOf i).toNat)
  case atStart => exact ⟨0, Nat.zero_le _, rfl, HC1, HC2, HB2⟩
  case round =>
    obtain ⟨j, hj, rfl, C1, C2, HB⟩ := hrel
    clear HC1 HC2 HB2
    by_cases hlt : j < LP.length
    · have hlt' : (j : Int) < (LP.length : Int) := by omega
      have hj0 : (0 : Int) ≤ (j : Int) := Int.natCast_nonneg _
      obtain ⟨ad1, rfl, q0, q1, q2, q3⟩ := at_T31 C1.out j (by omega) (by omega)
      obtain ⟨ad2, rfl, r0, r1, r2, r3⟩ := at_T30 C2.out j (by omega) (by omega)
      rw [rd_cv] at r0 r1 r2 r3
      have hmax := HM.out
      obtain ⟨x, hx⟩ : ∃ x, rd_T31 LP j = x := ⟨_, rfl⟩
      rw [hx] at q0 q1 q2 q3 r0 r1 r2 r3
      obtain ⟨f0, f1, f2, f3⟩ := x
      simp only [cv, Int.toNat_natCast] at q0 q1 q2 q3 r0 r1 r2 r3
      clear hx
      go_wp2
      go_region_held3 (fun w' => w'.cell? (ad1.add (j * 4)) = some (.int .i64 f0) ∧ w'.cell? ⟨(ad1.add (j * 4)).block, (ad1.add (j * 4)).off + 1, none⟩ = some (.int .i64 f1) ∧ w'.cell? ⟨(ad1.add (j * 4)).block, (ad1.add (j * 4)).off + 2, none⟩ = some (.int .i64 f2) ∧ w'.cell? ⟨(ad1.add (j * 4)).block, (ad1.add (j * 4)).off + 3, none⟩ = some (.int .i64 f3) ∧ w'.cell? (ad2.add (j * 4)) = some (.int .i64 f0) ∧ w'.cell? ⟨(ad2.add (j * 4)).block, (ad2.add (j * 4)).off + 1, none⟩ = some (.int .i64 f1) ∧ w'.cell? ⟨(ad2.add (j * 4)).block, (ad2.add (j * 4)).off + 2, none⟩ = some (.int .i64 f2) ∧ w'.cell? ⟨(ad2.add (j * 4)).block, (ad2.add (j * 4)).off + 3, none⟩ = some (.int .i64 f3)) (go_keep) (first | fail)
      go_wp2
      go_roundw
      case rel => exact ⟨j + 1, by omega, by go_num, ⟨Kd.C_drew C1.out⟩, ⟨Kd.C_drew C2.out⟩, ⟨below_drew HB.out⟩⟩
      case measure => simp [intOf]; omega
    · have hjn : j = LP.length := by omega
      subst hjn
      go_wp2_with (first | (go_at_call 12; refine (WK.out _).mono ?_; rintro e w3 ⟨rfl, hb⟩; have HB3 := Aside0.mk (below_step HB.out hb); clear hb))
      go_ret
      exact ⟨rfl, HB3.out⟩
end Go.Proofs.YtjpjjddkbohbpaaX
