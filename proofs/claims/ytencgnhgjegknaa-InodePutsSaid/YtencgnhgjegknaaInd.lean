/- slices.IndexFunc and ContainsFunc over numbers, asked whether one is not 0; inode.Blocks. -/
import Derived.Test.YtencgnhgjegknaaWWords
import Derived.Test.YtencgnhgjegknaaProg
import Derived.WalkKit
import Derived.KernelRfl
namespace Go.Proofs.YtencgnhgjegknaaX
open Go.RowKit Go.Proofs.YtencgnhgjegknaaW.PrintWords
set_option linter.unusedVariables false

theorem notZero_any (n : Int) (w : World) : Calls Try.prog 25 #[.int .u32 n] w fun e w' => e = .returned (.bool (n != 0)) ∧ w = w' := by
  go_enter Try.func25, Try.ntmps25
  go_wp2
  go_ret
  exact ⟨rfl, rfl⟩

/-- Where the first number stands that is not 0; -1. -/
def firstNZ (l : List Int) : Int := match l.findIdx? (fun x => x != 0) with
  | some i => (i : Int)
  | none => -1
theorem findIdx_none {l : List Int} (h : ∀ j, j < l.length → (l.getD j 0 != 0) = false) : l.findIdx? (fun x => x != 0) = none := by
  rw [List.findIdx?_eq_none_iff]
  intro x hx
  obtain ⟨j, hj, rfl⟩ := List.getElem_of_mem hx
  have := h j hj
  rwa [List.getD_eq_getElem?_getD, List.getElem?_eq_getElem hj] at this
theorem findIdx_some {l : List Int} {i : Nat} (hi : i < l.length) (h : ∀ j, j < i → (l.getD j 0 != 0) = false) (hx : (l.getD i 0 != 0) = true) : l.findIdx? (fun x => x != 0) = some i := by
  rw [List.findIdx?_eq_some_iff_getElem]
  refine ⟨hi, ?_, fun j hj => ?_⟩
  · rwa [List.getD_eq_getElem?_getD, List.getElem?_eq_getElem hi] at hx
  · have := h j hj
    rw [List.getD_eq_getElem?_getD, List.getElem?_eq_getElem (by omega : j < l.length)] at this
    simpa using this
set_option maxHeartbeats 1000000 in
theorem index_any (A : Option Addr) (n c : Nat) (l : List Int) (w : World) (hr : ReadsInt w .u32 A n l) :
    Calls Try.prog 29 #[.slice A n c, .func (.func 25) #[] #[]] w fun e w' => e = .returned (.int .i64 (firstNZ l)) ∧ w = w' := by
  have HR := Aside0.mk hr
  have hl : l.length = n := hr.1
  have hn : n ≤ 9223372036854775807 := hr.2.1
  clear hr
  have HL := Aside0.mk hl
  clear hl
  go_enter Try.func29, Try.ntmps29
  go_wp2
  go_loop [8] (fun i => ∃ k : Nat, k ≤ n ∧ i = .int .i64 k ∧ Aside0 (∀ j, j < k → (l.getD j 0 != 0) = false)) (fun i => n - (intOf i).toNat)
  case atStart => exact ⟨0, Nat.zero_le _, rfl, ⟨fun j hj => absurd hj (by omega)⟩⟩
  case round =>
    obtain ⟨k, hk, rfl, HK⟩ := hrel
    by_cases hlt : k < n
    · obtain ⟨ad, rfl, hc⟩ := HR.out.at_ k (by omega) (by omega)
      rw [Int.toNat_natCast] at hc
      have hx0 : rd l k = l.getD k 0 := by unfold rd; rw [Int.toNat_natCast]
      rw [hx0] at hc
      obtain ⟨x, hx⟩ : ∃ x, l.getD k 0 = x := ⟨_, rfl⟩
      rw [hx] at hc
      have HX := Aside0.mk hx
      clear hx hx0
      by_cases hz : (x != 0) = true
      · have hfin : firstNZ l = (k : Int) := by unfold firstNZ; rw [findIdx_some (by rw [HL.out]; exact hlt) HK.out (by rw [HX.out]; exact hz)]
        have HF := Aside0.mk hfin
        clear hfin
        go_wp2_with (go_at_call 25; refine (notZero_any x _).mono ?_; rintro e w' ⟨rfl, rfl⟩)
        go_ret
        exact ⟨by rw [HF.out]; rfl, rfl⟩
      · have hz' : (x != 0) = false := by simpa using hz
        clear hz
        go_wp2_with (go_at_call 25; refine (notZero_any x _).mono ?_; rintro e w' ⟨rfl, rfl⟩)
        go_round
        case rel => exact ⟨k + 1, by omega, by go_num, ⟨fun j hj => by
          rcases Nat.lt_or_ge j k with h | h
          · exact HK.out j h
          · obtain rfl : j = k := by omega
            rw [HX.out]; exact hz'⟩⟩
        case measure => simp [intOf]; omega
    · have hfin : firstNZ l = -1 := by
        unfold firstNZ; rw [findIdx_none fun j hj => HK.out j (by have := HL.out; omega)]
      have HF := Aside0.mk hfin
      clear hfin
      go_wp2
      go_ret
      exact ⟨by rw [HF.out]; rfl, rfl⟩
def anyNZ (l : List Int) : Bool := l.any (fun x => x != 0)
theorem any_first (l : List Int) : decide (0 ≤ firstNZ l) = anyNZ l := by
  unfold firstNZ anyNZ
  cases h : l.findIdx? (fun x => x != 0) with
  | none =>
    rw [List.findIdx?_eq_none_iff] at h
    have : l.any (fun x => x != 0) = false := by
      rw [List.any_eq_false]; intro x hx; rw [h x hx]; simp
    rw [this]; rfl
  | some i =>
    rw [List.findIdx?_eq_some_iff_getElem] at h
    obtain ⟨hi, hx, _⟩ := h
    have : l.any (fun x => x != 0) = true := by
      rw [List.any_eq_true]; exact ⟨l[i], List.getElem_mem hi, hx⟩
    rw [this]; simp
set_option maxHeartbeats 1000000 in
theorem contains_any (A : Option Addr) (n c : Nat) (l : List Int) (w : World) (hr : ReadsInt w .u32 A n l) :
    Calls Try.prog 24 #[.slice A n c, .func (.func 25) #[] #[]] w fun e w' => e = .returned (.bool (anyNZ l)) ∧ w = w' := by
  have HR := Aside0.mk hr
  clear hr
  obtain ⟨r, hr⟩ : ∃ r, firstNZ l = r := ⟨_, rfl⟩
  have hq := any_first l
  rw [hr] at hq
  have HQ := Aside0.mk hq
  have HE := Aside0.mk hr
  clear hq hr
  go_enter Try.func24, Try.ntmps24
  go_wp2_with (go_at_call 29; refine (index_any A n c l _ HR.out).mono ?_; rw [HE.out]; rintro e w' ⟨rfl, rfl⟩)
  go_ret
  exact ⟨by rw [← HQ.out]; rfl, rfl⟩

/-- How many blocks a size has. -/
def blk (a : Int) : Int := if a ≤ 0 then 0 else (a - 1) / 112 + 1
set_option maxHeartbeats 1000000 in
theorem blocks_any (a : Int) (w : World) (ha : a ≤ 9223372036854775807) :
    Calls Try.prog 14 #[.int .i64 a] w fun e w' => e = .returned (.int .i64 (blk a)) ∧ w = w' := by
  by_cases h : a ≤ 0
  · have hb : blk a = 0 := by unfold blk; rw [if_pos h]
    have HB := Aside0.mk hb
    clear hb
    go_enter Try.func14, Try.ntmps14
    go_wp2
    go_ret
    exact ⟨by rw [HB.out]; rfl, rfl⟩
  · have hb : blk a = (a - 1) / 112 + 1 := by unfold blk; rw [if_neg h]
    have HB := Aside0.mk hb
    have h' : 0 < a := by omega
    clear hb h
    go_enter Try.func14, Try.ntmps14
    go_wp2
    go_ret
    exact ⟨by rw [HB.out]; rfl, rfl⟩
theorem blk_bd {a : Int} (h : a ≤ 9223372036854775807) : 0 ≤ blk a ∧ blk a ≤ 82351536043346213 := by
  unfold blk
  by_cases h0 : a ≤ 0
  · rw [if_pos h0]; omega
  · rw [if_neg h0]; omega
end Go.Proofs.YtencgnhgjegknaaX
