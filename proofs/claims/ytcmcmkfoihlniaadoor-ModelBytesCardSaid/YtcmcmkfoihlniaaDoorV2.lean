/- What this claim uses of the texts that were printed for it. -/
import Derived.Lib.DecodeN
import Derived.Lib.RuneCount
import Derived.Lib.Strings
import Derived.Lib.Bytealg
import Derived.Lib.OthersKept
import Derived.LoopTactic
import Derived.Shelf.Small.Strs
import Derived.Shelf.Unicode.Decode
import Derived.Shelf.Unicode.DecodeSlow
import Derived.Shelf.Unicode.DecodeAny
import Derived.Test.YtcmcmkfoihlniaaDoorProg
import Derived.Laws.Tables
import Derived.Laws.Rows
import Derived.Laws.CopyOwn
import Derived.Laws.CopyRow
import Derived.Laws.AppendOwn
import Derived.Below
import Derived.Laws.MakeOwn
import Derived.Deep.MidRow
import Derived.Test.YtcmcmkfoihlniaaDoorV1
section
namespace Go.Proofs.YtcmcmkfoihlniaaDoor.PModelUndoes
open Go.RowKit Go.Proofs.YtcmcmkfoihlniaaDoorW.PrintWords Go.Proofs.YtcmcmkfoihlniaaDoorW.PrintLast Go.Proofs.YtcmcmkfoihlniaaDoorW.PrintMore
theorem info5 : (Tryd.prog.info? 5).map (fun i => (i.zero, i.size, i.bytes)) = some (some (.int .u8 0), 1, 1) := by kernel_rfl
theorem info21 : (Tryd.prog.info? 21).map (fun i => (i.zero, i.size, i.bytes)) = some (some (.int .i32 0), 1, 4) := by kernel_rfl
attribute [local go_sem] max2_int min2_int max_two min_two
set_option linter.unusedVariables false
set_option linter.unusedSimpArgs false
def model_last_int.f (l0 : List Int) : Option (Int) := if 0 ≤ (wrap64 ((l0.length : Int) - 1)) then (if (wrap64 ((l0.length : Int) - 1)) < (l0.length : Int) then (some (rd l0 (wrap64 ((l0.length : Int) - 1)))) else (none)) else (none)
set_option maxHeartbeats 8000000 in
set_option maxRecDepth 100000 in
theorem model_last_int.calls (A0 : Option Addr) (c0 : Nat) (l0 : List Int) (r : Int) (w : World) (hr0 : Kd.C (Kd.int .i64) w A0 l0.length l0) (hc0 : l0.length ≤ c0) (h : model_last_int.f l0 = some r) :
    Calls Tryd.prog 32 #[.slice A0 l0.length c0] w fun e w' => e = .returned (.int .i64 r) ∧ Drawn0 w w' := by
  have HR0 := Aside0.mk hr0
  have HC0 := Aside0.mk hc0
  clear hr0 hc0
  have H : (if 0 ≤ (wrap64 ((l0.length : Int) - 1)) then (if (wrap64 ((l0.length : Int) - 1)) < (l0.length : Int) then (some (rd l0 (wrap64 ((l0.length : Int) - 1)))) else (none)) else (none)) = some r := h
  clear h
  obtain ⟨ji2, hji2⟩ : ∃ j_ : Int, (wrap64 ((l0.length : Int) - 1)) = j_ := ⟨_, rfl⟩
  replace H : (if 0 ≤ (ji2) then (if (ji2) < (l0.length : Int) then (some (rd l0 (ji2))) else (none)) else (none)) = some r := by first | (rw [hji2] at H; exact H) | (simp only [hji2] at H ⊢; exact H)
  have hji2w : (IntKind.i64.wrap ((l0.length : Int) - 1)) = ji2 := (i64_w _).trans hji2
  by_cases c3 : 0 ≤ (ji2)
  · rw [if_pos c3] at H
    have c3b0 : decide (0 ≤ (ji2)) = true := decide_eq_true c3
    clear c3
    by_cases c4 : (ji2) < (l0.length : Int)
    · rw [if_pos c4] at H
      have c4b0 : decide ((ji2) < (l0.length : Int)) = true := decide_eq_true c4
      clear c4
      obtain rfl := Option.some.inj H
      have p121 : 0 ≤ ((ji2) : Int) := of_decide_eq_true (by first | (with_reducible assumption) | assumption)
      have q121 : (ji2) < (l0.length : Int) := of_decide_eq_true (by first | (with_reducible assumption) | assumption)
      obtain ⟨ad121, e121, hx121_0⟩ := Kd.at_int HR0.out (ji2) p121 q121
      cases e121
      replace p121 := eq_true p121
      replace q121 := eq_true q121
      go_enter Tryd.func32, Tryd.ntmps32
      go_wp2
      go_ret
      exact ⟨by first | rfl | (simp; done) | (simp only [← hji2] <;> (first | rfl | simp)) | (simp [*]; done), by repeat (first | exact Drawn0.refl _ | apply Drawn0.step)⟩
    · rw [if_neg c4] at H
      exact absurd H (by simp)
  · rw [if_neg c3] at H
    exact absurd H (by simp)
def model_last_string.f (l0 : List ByteArray) : Option (ByteArray) := if 0 ≤ (wrap64 ((l0.length : Int) - 1)) then (if (wrap64 ((l0.length : Int) - 1)) < (l0.length : Int) then (some (rdOf ByteArray.empty l0 (wrap64 ((l0.length : Int) - 1)))) else (none)) else (none)
set_option maxHeartbeats 8000000 in
set_option maxRecDepth 100000 in
theorem model_last_string.calls (A0 : Option Addr) (c0 : Nat) (l0 : List ByteArray) (r : ByteArray) (w : World) (hr0 : Kd.C Kd.string w A0 l0.length l0) (hc0 : l0.length ≤ c0) (h : model_last_string.f l0 = some r) :
    Calls Tryd.prog 34 #[.slice A0 l0.length c0] w fun e w' => e = .returned (.string r) ∧ Drawn0 w w' := by
  have HR0 := Aside0.mk hr0
  have HC0 := Aside0.mk hc0
  clear hr0 hc0
  have H : (if 0 ≤ (wrap64 ((l0.length : Int) - 1)) then (if (wrap64 ((l0.length : Int) - 1)) < (l0.length : Int) then (some (rdOf ByteArray.empty l0 (wrap64 ((l0.length : Int) - 1)))) else (none)) else (none)) = some r := h
  clear h
  obtain ⟨ji2, hji2⟩ : ∃ j_ : Int, (wrap64 ((l0.length : Int) - 1)) = j_ := ⟨_, rfl⟩
  replace H : (if 0 ≤ (ji2) then (if (ji2) < (l0.length : Int) then (some (rdOf ByteArray.empty l0 (ji2))) else (none)) else (none)) = some r := by first | (rw [hji2] at H; exact H) | (simp only [hji2] at H ⊢; exact H)
  have hji2w : (IntKind.i64.wrap ((l0.length : Int) - 1)) = ji2 := (i64_w _).trans hji2
  by_cases c3 : 0 ≤ (ji2)
  · rw [if_pos c3] at H
    have c3b0 : decide (0 ≤ (ji2)) = true := decide_eq_true c3
    clear c3
    by_cases c4 : (ji2) < (l0.length : Int)
    · rw [if_pos c4] at H
      have c4b0 : decide ((ji2) < (l0.length : Int)) = true := decide_eq_true c4
      clear c4
      obtain rfl := Option.some.inj H
      have p122 : 0 ≤ ((ji2) : Int) := of_decide_eq_true (by first | (with_reducible assumption) | assumption)
      have q122 : (ji2) < (l0.length : Int) := of_decide_eq_true (by first | (with_reducible assumption) | assumption)
      obtain ⟨ad122, e122, hx122_0⟩ := Kd.at_string HR0.out (ji2) p122 q122
      cases e122
      replace p122 := eq_true p122
      replace q122 := eq_true q122
      go_enter Tryd.func34, Tryd.ntmps34
      go_wp2
      go_ret
      exact ⟨by first | rfl | (simp; done) | (simp only [← hji2] <;> (first | rfl | simp)) | (simp [*]; done), by repeat (first | exact Drawn0.refl _ | apply Drawn0.step)⟩
    · rw [if_neg c4] at H
      exact absurd H (by simp)
  · rw [if_neg c3] at H
    exact absurd H (by simp)
def cmp_isNaN_rune.f (a0 : Int) : Option (Bool) := some (a0 != a0)
set_option maxHeartbeats 8000000 in
set_option maxRecDepth 100000 in
theorem cmp_isNaN_rune.calls (a0 : Int) (r : Bool) (w : World) (h : cmp_isNaN_rune.f a0 = some r) :
    Calls Tryd.prog 93 #[.int .i32 a0] w fun e w' => e = .returned (.bool r) ∧ Drawn0 w w' := by
  have H : (some (a0 != a0)) = some r := h
  clear h
  obtain rfl := Option.some.inj H
  go_enter Tryd.func93, Tryd.ntmps93
  go_wp2
  go_ret
  exact ⟨by first | rfl | (simp; done) | (simp [*]; done), by repeat (first | exact Drawn0.refl _ | apply Drawn0.step)⟩
def cmp_Compare_rune.f (a0 : Int) (a1 : Int) : Option (Int) := (cmp_isNaN_rune.f a0).bind fun t123 => ((cmp_isNaN_rune.f a1).bind fun t124 => (if t123 = true then (if t124 = true then (some 0) else (some (-1))) else (if t124 = true then (some 1) else (if a0 < a1 then (some (-1)) else (if a0 > a1 then (some 1) else (some 0))))))
set_option maxHeartbeats 8000000 in
set_option maxRecDepth 100000 in
theorem cmp_Compare_rune.calls (a0 : Int) (a1 : Int) (r : Int) (w : World) (h : cmp_Compare_rune.f a0 a1 = some r) :
    Calls Tryd.prog 89 #[.int .i32 a0, .int .i32 a1] w fun e w' => e = .returned (.int .i64 r) ∧ Drawn0 w w' := by
  have H : ((cmp_isNaN_rune.f a0).bind fun t123 => ((cmp_isNaN_rune.f a1).bind fun t124 => (if t123 = true then (if t124 = true then (some 0) else (some (-1))) else (if t124 = true then (some 1) else (if a0 < a1 then (some (-1)) else (if a0 > a1 then (some 1) else (some 0))))))) = some r := h
  clear h
  replace H := Option.bind_eq_some_iff.mp H
  obtain ⟨t123, A30, H⟩ := H
  replace H : ((cmp_isNaN_rune.f a1).bind fun t124 => (if t123 = true then (if t124 = true then (some 0) else (some (-1))) else (if t124 = true then (some 1) else (if a0 < a1 then (some (-1)) else (if a0 > a1 then (some 1) else (some 0)))))) = some r := H
  have A3 := Aside0.mk A30
  clear A30
  replace H := Option.bind_eq_some_iff.mp H
  obtain ⟨t124, A40, H⟩ := H
  replace H : (if t123 = true then (if t124 = true then (some 0) else (some (-1))) else (if t124 = true then (some 1) else (if a0 < a1 then (some (-1)) else (if a0 > a1 then (some 1) else (some 0))))) = some r := H
  have A4 := Aside0.mk A40
  clear A40
  by_cases c5 : t123 = true
  · subst c5
    have H1 : (if t124 = true then (some 0) else (some (-1))) = some r := by rw [if_pos rfl] at H; exact H
    clear H
    have H := H1
    clear H1
    by_cases c6 : t124 = true
    · subst c6
      have H1 : (some 0) = some r := by rw [if_pos rfl] at H; exact H
      clear H
      have H := H1
      clear H1
      obtain rfl := Option.some.inj H
      go_enter Tryd.func89, Tryd.ntmps89
      go_wp2_with (first | ((with_reducible refine gate_callee (f := 93) rfl ?_); refine goesL_ (some 8) rfl rfl Tryd.func93 (by kernel_rfl) rfl #[.int .i32 a0] rfl (by (try simp only [List.map_toArray, List.map_cons, List.map_nil]); first | done | rfl | (simp only [List.length_drop, List.length_take]; rfl)) ?_; (with_reducible refine (cmp_isNaN_rune.calls a0 true _ A3.out).mono ?_); rintro e w' ⟨rfl, ⟨nd, rfl⟩⟩; refine ⟨_, rfl, ?_⟩) | ((with_reducible refine gate_callee (f := 93) rfl ?_); refine goesL_ (some 10) rfl rfl Tryd.func93 (by kernel_rfl) rfl #[.int .i32 a1] rfl (by (try simp only [List.map_toArray, List.map_cons, List.map_nil]); first | done | rfl | (simp only [List.length_drop, List.length_take]; rfl)) ?_; (with_reducible refine (cmp_isNaN_rune.calls a1 true _ A4.out).mono ?_); rintro e w' ⟨rfl, ⟨nd, rfl⟩⟩; refine ⟨_, rfl, ?_⟩))
      go_ret
      exact ⟨by first | rfl | (simp; done) | (simp [*]; done), by repeat (first | exact Drawn0.refl _ | apply Drawn0.step)⟩
    · replace c6 := Bool.eq_false_iff.mpr c6
      subst c6
      have H1 : (some (-1)) = some r := by rw [if_neg (show ¬ (false = true) by decide)] at H; exact H
      clear H
      have H := H1
      clear H1
      obtain rfl := Option.some.inj H
      go_enter Tryd.func89, Tryd.ntmps89
      go_wp2_with (first | ((with_reducible refine gate_callee (f := 93) rfl ?_); refine goesL_ (some 8) rfl rfl Tryd.func93 (by kernel_rfl) rfl #[.int .i32 a0] rfl (by (try simp only [List.map_toArray, List.map_cons, List.map_nil]); first | done | rfl | (simp only [List.length_drop, List.length_take]; rfl)) ?_; (with_reducible refine (cmp_isNaN_rune.calls a0 true _ A3.out).mono ?_); rintro e w' ⟨rfl, ⟨nd, rfl⟩⟩; refine ⟨_, rfl, ?_⟩) | ((with_reducible refine gate_callee (f := 93) rfl ?_); refine goesL_ (some 10) rfl rfl Tryd.func93 (by kernel_rfl) rfl #[.int .i32 a1] rfl (by (try simp only [List.map_toArray, List.map_cons, List.map_nil]); first | done | rfl | (simp only [List.length_drop, List.length_take]; rfl)) ?_; (with_reducible refine (cmp_isNaN_rune.calls a1 false _ A4.out).mono ?_); rintro e w' ⟨rfl, ⟨nd, rfl⟩⟩; refine ⟨_, rfl, ?_⟩))
      go_ret
      exact ⟨by first | rfl | (simp; done) | (simp [*]; done), by repeat (first | exact Drawn0.refl _ | apply Drawn0.step)⟩
  · replace c5 := Bool.eq_false_iff.mpr c5
    subst c5
    have H1 : (if t124 = true then (some 1) else (if a0 < a1 then (some (-1)) else (if a0 > a1 then (some 1) else (some 0)))) = some r := by rw [if_neg (show ¬ (false = true) by decide)] at H; exact H
    clear H
    have H := H1
    clear H1
    by_cases c7 : t124 = true
    · subst c7
      have H1 : (some 1) = some r := by rw [if_pos rfl] at H; exact H
      clear H
      have H := H1
      clear H1
      obtain rfl := Option.some.inj H
      go_enter Tryd.func89, Tryd.ntmps89
      go_wp2_with (first | ((with_reducible refine gate_callee (f := 93) rfl ?_); refine goesL_ (some 8) rfl rfl Tryd.func93 (by kernel_rfl) rfl #[.int .i32 a0] rfl (by (try simp only [List.map_toArray, List.map_cons, List.map_nil]); first | done | rfl | (simp only [List.length_drop, List.length_take]; rfl)) ?_; (with_reducible refine (cmp_isNaN_rune.calls a0 false _ A3.out).mono ?_); rintro e w' ⟨rfl, ⟨nd, rfl⟩⟩; refine ⟨_, rfl, ?_⟩) | ((with_reducible refine gate_callee (f := 93) rfl ?_); refine goesL_ (some 10) rfl rfl Tryd.func93 (by kernel_rfl) rfl #[.int .i32 a1] rfl (by (try simp only [List.map_toArray, List.map_cons, List.map_nil]); first | done | rfl | (simp only [List.length_drop, List.length_take]; rfl)) ?_; (with_reducible refine (cmp_isNaN_rune.calls a1 true _ A4.out).mono ?_); rintro e w' ⟨rfl, ⟨nd, rfl⟩⟩; refine ⟨_, rfl, ?_⟩))
      go_ret
      exact ⟨by first | rfl | (simp; done) | (simp [*]; done), by repeat (first | exact Drawn0.refl _ | apply Drawn0.step)⟩
    · replace c7 := Bool.eq_false_iff.mpr c7
      subst c7
      have H1 : (if a0 < a1 then (some (-1)) else (if a0 > a1 then (some 1) else (some 0))) = some r := by rw [if_neg (show ¬ (false = true) by decide)] at H; exact H
      clear H
      have H := H1
      clear H1
      by_cases c8 : a0 < a1
      · rw [if_pos c8] at H
        have c8b0 : decide (a0 < a1) = true := decide_eq_true c8
        clear c8
        obtain rfl := Option.some.inj H
        go_enter Tryd.func89, Tryd.ntmps89
        go_wp2_with (first | ((with_reducible refine gate_callee (f := 93) rfl ?_); refine goesL_ (some 8) rfl rfl Tryd.func93 (by kernel_rfl) rfl #[.int .i32 a0] rfl (by (try simp only [List.map_toArray, List.map_cons, List.map_nil]); first | done | rfl | (simp only [List.length_drop, List.length_take]; rfl)) ?_; (with_reducible refine (cmp_isNaN_rune.calls a0 false _ A3.out).mono ?_); rintro e w' ⟨rfl, ⟨nd, rfl⟩⟩; refine ⟨_, rfl, ?_⟩) | ((with_reducible refine gate_callee (f := 93) rfl ?_); refine goesL_ (some 10) rfl rfl Tryd.func93 (by kernel_rfl) rfl #[.int .i32 a1] rfl (by (try simp only [List.map_toArray, List.map_cons, List.map_nil]); first | done | rfl | (simp only [List.length_drop, List.length_take]; rfl)) ?_; (with_reducible refine (cmp_isNaN_rune.calls a1 false _ A4.out).mono ?_); rintro e w' ⟨rfl, ⟨nd, rfl⟩⟩; refine ⟨_, rfl, ?_⟩))
        go_ret
        exact ⟨by first | rfl | (simp; done) | (simp [*]; done), by repeat (first | exact Drawn0.refl _ | apply Drawn0.step)⟩
      · rw [if_neg c8] at H
        have c8b0 : decide (a0 < a1) = false := decide_eq_false c8
        clear c8
        by_cases c9 : a0 > a1
        · rw [if_pos c9] at H
          have c9b0 : decide (a1 < a0) = true := decide_eq_true c9
          clear c9
          obtain rfl := Option.some.inj H
          go_enter Tryd.func89, Tryd.ntmps89
          go_wp2_with (first | ((with_reducible refine gate_callee (f := 93) rfl ?_); refine goesL_ (some 8) rfl rfl Tryd.func93 (by kernel_rfl) rfl #[.int .i32 a0] rfl (by (try simp only [List.map_toArray, List.map_cons, List.map_nil]); first | done | rfl | (simp only [List.length_drop, List.length_take]; rfl)) ?_; (with_reducible refine (cmp_isNaN_rune.calls a0 false _ A3.out).mono ?_); rintro e w' ⟨rfl, ⟨nd, rfl⟩⟩; refine ⟨_, rfl, ?_⟩) | ((with_reducible refine gate_callee (f := 93) rfl ?_); refine goesL_ (some 10) rfl rfl Tryd.func93 (by kernel_rfl) rfl #[.int .i32 a1] rfl (by (try simp only [List.map_toArray, List.map_cons, List.map_nil]); first | done | rfl | (simp only [List.length_drop, List.length_take]; rfl)) ?_; (with_reducible refine (cmp_isNaN_rune.calls a1 false _ A4.out).mono ?_); rintro e w' ⟨rfl, ⟨nd, rfl⟩⟩; refine ⟨_, rfl, ?_⟩))
          go_ret
          exact ⟨by first | rfl | (simp; done) | (simp [*]; done), by repeat (first | exact Drawn0.refl _ | apply Drawn0.step)⟩
        · rw [if_neg c9] at H
          have c9b0 : decide (a1 < a0) = false := decide_eq_false c9
          clear c9
          obtain rfl := Option.some.inj H
          go_enter Tryd.func89, Tryd.ntmps89
          go_wp2_with (first | ((with_reducible refine gate_callee (f := 93) rfl ?_); refine goesL_ (some 8) rfl rfl Tryd.func93 (by kernel_rfl) rfl #[.int .i32 a0] rfl (by (try simp only [List.map_toArray, List.map_cons, List.map_nil]); first | done | rfl | (simp only [List.length_drop, List.length_take]; rfl)) ?_; (with_reducible refine (cmp_isNaN_rune.calls a0 false _ A3.out).mono ?_); rintro e w' ⟨rfl, ⟨nd, rfl⟩⟩; refine ⟨_, rfl, ?_⟩) | ((with_reducible refine gate_callee (f := 93) rfl ?_); refine goesL_ (some 10) rfl rfl Tryd.func93 (by kernel_rfl) rfl #[.int .i32 a1] rfl (by (try simp only [List.map_toArray, List.map_cons, List.map_nil]); first | done | rfl | (simp only [List.length_drop, List.length_take]; rfl)) ?_; (with_reducible refine (cmp_isNaN_rune.calls a1 false _ A4.out).mono ?_); rintro e w' ⟨rfl, ⟨nd, rfl⟩⟩; refine ⟨_, rfl, ?_⟩))
          go_ret
          exact ⟨by first | rfl | (simp; done) | (simp [*]; done), by repeat (first | exact Drawn0.refl _ | apply Drawn0.step)⟩
def slices_Compare_rune_rune.l0 : Nat → List Int → List Int → List Int → Int → Int → Option (Int)
  | 0, _, _, _, _, _ => none
  | k + 1, x0, x1, x9, x10, x11 => if x11 < x10 then (if 0 ≤ x11 then (if x11 < (x9.length : Int) then (if x11 ≥ (x1.length : Int) then (some 1) else (if x11 < (x1.length : Int) then ((cmp_Compare_rune.f (rd x9 x11) (rd x1 x11)).bind fun t127 => (if t127 = 0 then (slices_Compare_rune_rune.l0 k x0 x1 x9 x10 (wrap64 (x11 + 1))) else (some t127))) else (none))) else (none)) else (none)) else (if (x0.length : Int) < (x1.length : Int) then (some (-1)) else (some 0))
def slices_Compare_rune_rune.f (k : Nat) (l0 : List Int) (l1 : List Int) : Option (Int) := slices_Compare_rune_rune.l0 k l0 l1 l0 (l0.length : Int) 0
set_option maxHeartbeats 8000000 in
set_option maxRecDepth 100000 in
theorem slices_Compare_rune_rune.calls (k : Nat) (A0 : Option Addr) (c0 : Nat) (l0 : List Int) (A1 : Option Addr) (c1 : Nat) (l1 : List Int) (r : Int) (w : World) (hr0 : Kd.C (Kd.int .i32) w A0 l0.length l0) (hc0 : l0.length ≤ c0) (hr1 : Kd.C (Kd.int .i32) w A1 l1.length l1) (hc1 : l1.length ≤ c1) (h : slices_Compare_rune_rune.f k l0 l1 = some r) :
    Calls Tryd.prog 82 #[.slice A0 l0.length c0, .slice A1 l1.length c1] w fun e w' => e = .returned (.int .i64 r) ∧ Drawn0 w w' := by
  have HR0 := Aside0.mk hr0
  have HC0 := Aside0.mk hc0
  clear hr0 hc0
  have HR1 := Aside0.mk hr1
  have HC1 := Aside0.mk hc1
  clear hr1 hc1
  have H : (slices_Compare_rune_rune.l0 k l0 l1 l0 (l0.length : Int) 0) = some r := h
  clear h
  have H' := Aside0.mk H
  clear H
  go_enter Tryd.func82, Tryd.ntmps82
  go_wp2
  go_loopg [11] k (fun kq v11 w' => ∃ (x11_1 : Int), v11 = .int .i64 x11_1 ∧ Aside0 (slices_Compare_rune_rune.l0 kq l0 l1 l0 (l0.length : Int) x11_1 = some r) ∧ Aside0 (kq ≤ k) ∧ Drawn0 w w')
  case atStart => exact ⟨(0), (by first | rfl | (simp; done) | (simp [*]; done)), H', ⟨Nat.le_refl _⟩, by repeat (first | exact Drawn0.refl _ | apply Drawn0.step)⟩
  case round =>
    clear H'
    try clear c1
    try clear p2
    obtain ⟨x11_1, rfl, HA, HK1, ⟨m1, rfl⟩⟩ := hrel
    cases gk with
    | zero => exact absurd HA.out (by simp [slices_Compare_rune_rune.l0])
    | succ k1 =>
      have H := HA.out
      clear HA
      simp only [slices_Compare_rune_rune.l0] at H
      by_cases c3 : x11_1 < (l0.length : Int)
      · rw [if_pos c3] at H
        have c3b0 : decide (x11_1 < (l0.length : Int)) = true := decide_eq_true c3
        clear c3
        by_cases c4 : 0 ≤ x11_1
        · rw [if_pos c4] at H
          have c4b0 : decide (0 ≤ x11_1) = true := decide_eq_true c4
          clear c4
          by_cases c5 : x11_1 < (l0.length : Int)
          · rw [if_pos c5] at H
            have c5b0 : decide (x11_1 < (l0.length : Int)) = true := decide_eq_true c5
            clear c5
            by_cases c6 : x11_1 ≥ (l1.length : Int)
            · rw [if_pos c6] at H
              have c6b0 : decide ((l1.length : Int) ≤ x11_1) = true := decide_eq_true c6
              clear c6
              obtain rfl := Option.some.inj H
              have p125 : 0 ≤ (x11_1 : Int) := of_decide_eq_true (by first | (with_reducible assumption) | assumption)
              have q125 : x11_1 < (l0.length : Int) := of_decide_eq_true (by first | (with_reducible assumption) | assumption)
              obtain ⟨ad125, e125, hx125_0⟩ := Kd.at_int HR0.out x11_1 p125 q125
              cases e125
              replace p125 := eq_true p125
              replace q125 := eq_true q125
              go_wp2
              go_ret
              exact ⟨by first | rfl | (simp; done) | (simp [*]; done), by repeat (first | exact Drawn0.refl _ | apply Drawn0.step)⟩
            · rw [if_neg c6] at H
              have c6b0 : decide ((l1.length : Int) ≤ x11_1) = false := decide_eq_false c6
              clear c6
              by_cases c7 : x11_1 < (l1.length : Int)
              · rw [if_pos c7] at H
                have c7b0 : decide (x11_1 < (l1.length : Int)) = true := decide_eq_true c7
                clear c7
                replace H := Option.bind_eq_some_iff.mp H
                obtain ⟨t127, A80, H⟩ := H
                replace H : (if t127 = 0 then (slices_Compare_rune_rune.l0 k1 l0 l1 l0 (l0.length : Int) (wrap64 (x11_1 + 1))) else (some t127)) = some r := H
                have A8 := Aside0.mk A80
                clear A80
                by_cases c9 : t127 = 0
                · rw [if_pos c9] at H
                  have c9b0 : (t127 == 0) = true := beq_iff_eq.mpr c9
                  have c9b1 : (t127 != 0) = false := bne_eq_false_iff_eq.mpr c9
                  clear c9
                  have H' := Aside0.mk H
                  clear H
                  have p125 : 0 ≤ (x11_1 : Int) := of_decide_eq_true (by first | (with_reducible assumption) | assumption)
                  have q125 : x11_1 < (l0.length : Int) := of_decide_eq_true (by first | (with_reducible assumption) | assumption)
                  obtain ⟨ad125, e125, hx125_0⟩ := Kd.at_int HR0.out x11_1 p125 q125
                  cases e125
                  replace p125 := eq_true p125
                  replace q125 := eq_true q125
                  have p126 : 0 ≤ (x11_1 : Int) := of_decide_eq_true (by first | (with_reducible assumption) | assumption)
                  have q126 : x11_1 < (l1.length : Int) := of_decide_eq_true (by first | (with_reducible assumption) | assumption)
                  obtain ⟨ad126, e126, hx126_0⟩ := Kd.at_int HR1.out x11_1 p126 q126
                  cases e126
                  replace p126 := eq_true p126
                  replace q126 := eq_true q126
                  go_wp2_with (first | ((with_reducible refine gate_callee (f := 89) rfl ?_); refine goesL_ (some 26) rfl rfl Tryd.func89 (by kernel_rfl) rfl #[.int .i32 (rd l0 x11_1), .int .i32 (rd l1 x11_1)] rfl (by (try simp only [List.map_toArray, List.map_cons, List.map_nil]); first | done | rfl | (simp only [List.length_drop, List.length_take]; rfl)) ?_; (with_reducible refine (cmp_Compare_rune.calls (rd l0 x11_1) (rd l1 x11_1) t127 _ A8.out).mono ?_); rintro e w' ⟨rfl, ⟨nd, rfl⟩⟩; refine ⟨_, rfl, ?_⟩))
                  go_roundg k1
                  case measure => have := HK1.out; omega
                  case rel => exact ⟨(wrap64 (x11_1 + 1)), (by first | rfl | (simp; done) | (simp [*]; done)), H', ⟨by have := HK1.out; omega⟩, by repeat (first | exact Drawn0.refl _ | apply Drawn0.step)⟩
                · rw [if_neg c9] at H
                  have c9b0 : (t127 == 0) = false := beq_eq_false_iff_ne.mpr c9
                  have c9b1 : (t127 != 0) = true := bne_iff_ne.mpr c9
                  obtain rfl := Option.some.inj H
                  have p125 : 0 ≤ (x11_1 : Int) := of_decide_eq_true (by first | (with_reducible assumption) | assumption)
                  have q125 : x11_1 < (l0.length : Int) := of_decide_eq_true (by first | (with_reducible assumption) | assumption)
                  obtain ⟨ad125, e125, hx125_0⟩ := Kd.at_int HR0.out x11_1 p125 q125
                  cases e125
                  replace p125 := eq_true p125
                  replace q125 := eq_true q125
                  have p126 : 0 ≤ (x11_1 : Int) := of_decide_eq_true (by first | (with_reducible assumption) | assumption)
                  have q126 : x11_1 < (l1.length : Int) := of_decide_eq_true (by first | (with_reducible assumption) | assumption)
                  obtain ⟨ad126, e126, hx126_0⟩ := Kd.at_int HR1.out x11_1 p126 q126
                  cases e126
                  replace p126 := eq_true p126
                  replace q126 := eq_true q126
                  go_wp2_with (first | ((with_reducible refine gate_callee (f := 89) rfl ?_); refine goesL_ (some 26) rfl rfl Tryd.func89 (by kernel_rfl) rfl #[.int .i32 (rd l0 x11_1), .int .i32 (rd l1 x11_1)] rfl (by (try simp only [List.map_toArray, List.map_cons, List.map_nil]); first | done | rfl | (simp only [List.length_drop, List.length_take]; rfl)) ?_; (with_reducible refine (cmp_Compare_rune.calls (rd l0 x11_1) (rd l1 x11_1) t127 _ A8.out).mono ?_); rintro e w' ⟨rfl, ⟨nd, rfl⟩⟩; refine ⟨_, rfl, ?_⟩))
                  go_ret
                  exact ⟨by first | rfl | (simp; done) | (simp [*]; done), by repeat (first | exact Drawn0.refl _ | apply Drawn0.step)⟩
              · rw [if_neg c7] at H
                exact absurd H (by simp)
          · rw [if_neg c5] at H
            exact absurd H (by simp)
        · rw [if_neg c4] at H
          exact absurd H (by simp)
      · rw [if_neg c3] at H
        have c3b0 : decide (x11_1 < (l0.length : Int)) = false := decide_eq_false c3
        clear c3
        by_cases c10 : (l0.length : Int) < (l1.length : Int)
        · rw [if_pos c10] at H
          have c10b0 : decide ((l0.length : Int) < (l1.length : Int)) = true := decide_eq_true c10
          have c10b1 : decide (l0.length < l1.length) = true := decide_eq_true (Int.ofNat_lt.mp c10)
          clear c10
          obtain rfl := Option.some.inj H
          go_wp2
          go_ret
          exact ⟨by first | rfl | (simp; done) | (simp [*]; done), by repeat (first | exact Drawn0.refl _ | apply Drawn0.step)⟩
        · rw [if_neg c10] at H
          have c10b0 : decide ((l0.length : Int) < (l1.length : Int)) = false := decide_eq_false c10
          have c10b1 : decide (l0.length < l1.length) = false := decide_eq_false (fun h => c10 (Int.ofNat_lt.mpr h))
          clear c10
          obtain rfl := Option.some.inj H
          go_wp2
          go_ret
          exact ⟨by first | rfl | (simp; done) | (simp [*]; done), by repeat (first | exact Drawn0.refl _ | apply Drawn0.step)⟩
def entry_may.f (a0 : Int) : Option (Bool) := if a0 ≥ 1 then (some (decide (a0 ≤ 64))) else (some false)
set_option maxHeartbeats 8000000 in
set_option maxRecDepth 100000 in
theorem entry_may.calls (a0 : Int) (r : Bool) (w : World) (h : entry_may.f a0 = some r) :
    Calls Tryd.prog 75 #[.int .i64 a0] w fun e w' => e = .returned (.bool r) ∧ Drawn0 w w' := by
  have H : (if a0 ≥ 1 then (some (decide (a0 ≤ 64))) else (some false)) = some r := h
  clear h
  by_cases c2 : a0 ≥ 1
  · rw [if_pos c2] at H
    have c2b0 : decide (1 ≤ a0) = true := decide_eq_true c2
    clear c2
    obtain rfl := Option.some.inj H
    go_enter Tryd.func75, Tryd.ntmps75
    go_wp2
    go_ret
    exact ⟨by first | rfl | (simp; done) | (simp [*]; done), by repeat (first | exact Drawn0.refl _ | apply Drawn0.step)⟩
  · rw [if_neg c2] at H
    have c2b0 : decide (1 ≤ a0) = false := decide_eq_false c2
    clear c2
    obtain rfl := Option.some.inj H
    go_enter Tryd.func75, Tryd.ntmps75
    go_wp2
    go_ret
    exact ⟨by first | rfl | (simp; done) | (simp [*]; done), by repeat (first | exact Drawn0.refl _ | apply Drawn0.step)⟩
def slices_Index_int_int.l0 : Nat → List Int → Int → Int → Int → Option (Int)
  | 0, _, _, _, _ => none
  | k + 1, x0, x1, x7, x8 => if x8 < x7 then (if 0 ≤ x8 then (if x8 < (x0.length : Int) then (if x1 = (rd x0 x8) then (some x8) else (slices_Index_int_int.l0 k x0 x1 x7 (wrap64 (x8 + 1)))) else (none)) else (none)) else (some (-1))
def slices_Index_int_int.f (k : Nat) (l0 : List Int) (a1 : Int) : Option (Int) := slices_Index_int_int.l0 k l0 a1 (l0.length : Int) 0
set_option maxHeartbeats 8000000 in
set_option maxRecDepth 100000 in
theorem slices_Index_int_int.calls (k : Nat) (A0 : Option Addr) (c0 : Nat) (l0 : List Int) (a1 : Int) (r : Int) (w : World) (hr0 : Kd.C (Kd.int .i64) w A0 l0.length l0) (hc0 : l0.length ≤ c0) (h : slices_Index_int_int.f k l0 a1 = some r) :
    Calls Tryd.prog 60 #[.slice A0 l0.length c0, .int .i64 a1] w fun e w' => e = .returned (.int .i64 r) ∧ Drawn0 w w' := by
  have HR0 := Aside0.mk hr0
  have HC0 := Aside0.mk hc0
  clear hr0 hc0
  have H : (slices_Index_int_int.l0 k l0 a1 (l0.length : Int) 0) = some r := h
  clear h
  have H' := Aside0.mk H
  clear H
  go_enter Tryd.func60, Tryd.ntmps60
  go_wp2
  go_loopg [8] k (fun kq v8 w' => ∃ (x8_1 : Int), v8 = .int .i64 x8_1 ∧ Aside0 (slices_Index_int_int.l0 kq l0 a1 (l0.length : Int) x8_1 = some r) ∧ Aside0 (kq ≤ k) ∧ Drawn0 w w')
  case atStart => exact ⟨(0), (by first | rfl | (simp; done) | (simp [*]; done)), H', ⟨Nat.le_refl _⟩, by repeat (first | exact Drawn0.refl _ | apply Drawn0.step)⟩
  case round =>
    clear H'
    try clear p2
    obtain ⟨x8_1, rfl, HA, HK1, ⟨m1, rfl⟩⟩ := hrel
    cases gk with
    | zero => exact absurd HA.out (by simp [slices_Index_int_int.l0])
    | succ k1 =>
      have H := HA.out
      clear HA
      simp only [slices_Index_int_int.l0] at H
      by_cases c3 : x8_1 < (l0.length : Int)
      · rw [if_pos c3] at H
        have c3b0 : decide (x8_1 < (l0.length : Int)) = true := decide_eq_true c3
        clear c3
        by_cases c4 : 0 ≤ x8_1
        · rw [if_pos c4] at H
          have c4b0 : decide (0 ≤ x8_1) = true := decide_eq_true c4
          clear c4
          by_cases c5 : x8_1 < (l0.length : Int)
          · rw [if_pos c5] at H
            have c5b0 : decide (x8_1 < (l0.length : Int)) = true := decide_eq_true c5
            clear c5
            by_cases c6 : a1 = (rd l0 x8_1)
            · rw [if_pos c6] at H
              have c6b0 : (a1 == (rd l0 x8_1)) = true := beq_iff_eq.mpr c6
              have c6b1 : (a1 != (rd l0 x8_1)) = false := bne_eq_false_iff_eq.mpr c6
              clear c6
              obtain rfl := Option.some.inj H
              have p147 : 0 ≤ (x8_1 : Int) := of_decide_eq_true (by first | (with_reducible assumption) | assumption)
              have q147 : x8_1 < (l0.length : Int) := of_decide_eq_true (by first | (with_reducible assumption) | assumption)
              obtain ⟨ad147, e147, hx147_0⟩ := Kd.at_int HR0.out x8_1 p147 q147
              cases e147
              replace p147 := eq_true p147
              replace q147 := eq_true q147
              go_wp2
              go_ret
              exact ⟨by first | rfl | (simp; done) | (simp [*]; done), by repeat (first | exact Drawn0.refl _ | apply Drawn0.step)⟩
            · rw [if_neg c6] at H
              have c6b0 : (a1 == (rd l0 x8_1)) = false := beq_eq_false_iff_ne.mpr c6
              have c6b1 : (a1 != (rd l0 x8_1)) = true := bne_iff_ne.mpr c6
              have H' := Aside0.mk H
              clear H
              have p147 : 0 ≤ (x8_1 : Int) := of_decide_eq_true (by first | (with_reducible assumption) | assumption)
              have q147 : x8_1 < (l0.length : Int) := of_decide_eq_true (by first | (with_reducible assumption) | assumption)
              obtain ⟨ad147, e147, hx147_0⟩ := Kd.at_int HR0.out x8_1 p147 q147
              cases e147
              replace p147 := eq_true p147
              replace q147 := eq_true q147
              go_wp2
              go_roundg k1
              case measure => have := HK1.out; omega
              case rel => exact ⟨(wrap64 (x8_1 + 1)), (by first | rfl | (simp; done) | (simp [*]; done)), H', ⟨by have := HK1.out; omega⟩, by repeat (first | exact Drawn0.refl _ | apply Drawn0.step)⟩
          · rw [if_neg c5] at H
            exact absurd H (by simp)
        · rw [if_neg c4] at H
          exact absurd H (by simp)
      · rw [if_neg c3] at H
        have c3b0 : decide (x8_1 < (l0.length : Int)) = false := decide_eq_false c3
        clear c3
        obtain rfl := Option.some.inj H
        go_wp2
        go_ret
        exact ⟨by first | rfl | (simp; done) | (simp [*]; done), by repeat (first | exact Drawn0.refl _ | apply Drawn0.step)⟩
def slices_Contains_int_int.f (k : Nat) (l0 : List Int) (a1 : Int) : Option (Bool) := (slices_Index_int_int.f k l0 a1).bind fun t148 => (some (decide (t148 ≥ 0)))
set_option maxHeartbeats 8000000 in
set_option maxRecDepth 100000 in
theorem slices_Contains_int_int.calls (k : Nat) (A0 : Option Addr) (c0 : Nat) (l0 : List Int) (a1 : Int) (r : Bool) (w : World) (hr0 : Kd.C (Kd.int .i64) w A0 l0.length l0) (hc0 : l0.length ≤ c0) (h : slices_Contains_int_int.f k l0 a1 = some r) :
    Calls Tryd.prog 45 #[.slice A0 l0.length c0, .int .i64 a1] w fun e w' => e = .returned (.bool r) ∧ Drawn0 w w' := by
  have HR0 := Aside0.mk hr0
  have HC0 := Aside0.mk hc0
  clear hr0 hc0
  have H : ((slices_Index_int_int.f k l0 a1).bind fun t148 => (some (decide (t148 ≥ 0)))) = some r := h
  clear h
  replace H := Option.bind_eq_some_iff.mp H
  obtain ⟨t148, A30, H⟩ := H
  replace H : (some (decide (t148 ≥ 0))) = some r := H
  have A3 := Aside0.mk A30
  clear A30
  obtain rfl := Option.some.inj H
  go_enter Tryd.func45, Tryd.ntmps45
  go_wp2_with (first | ((with_reducible refine gate_callee (f := 60) rfl ?_); refine goesL_ (some 7) rfl rfl Tryd.func60 (by kernel_rfl) rfl #[.slice A0 l0.length c0, .int .i64 a1] rfl (by (try simp only [List.map_toArray, List.map_cons, List.map_nil]); first | done | rfl | (simp only [List.length_drop, List.length_take]; rfl)) ?_; (with_reducible refine (slices_Index_int_int.calls k _ _ l0 a1 t148 _ ?side1 ?side2 A3.out).mono ?_); (case side1 => repeat (first | exact HR0.out | (with_reducible refine Kd.C_alloc ?_ _) | (with_reducible refine Kd.C_drewN ?_ _) | (with_reducible refine Kd.C_drew ?_))); (case side2 => exact HC0.out); rintro e w' ⟨rfl, ⟨nd, rfl⟩⟩; refine ⟨_, rfl, ?_⟩))
  go_ret
  exact ⟨by first | rfl | (simp; done) | (simp [*]; done), by repeat (first | exact Drawn0.refl _ | apply Drawn0.step)⟩
end Go.Proofs.YtcmcmkfoihlniaaDoor.PModelUndoes
end

section
namespace Go.Proofs.YtcmcmkfoihlniaaDoor.NM
open Go Go.Lib
set_option linter.unusedVariables false
set_option linter.unusedSimpArgs false
def decL (l : List UInt8) : Nat × Nat := decodeN l.length (l.getD 0 0).toNat (l.getD 1 0).toNat (l.getD 2 0).toNat (l.getD 3 0).toNat
theorem decodeN_two (n b0 b1 b2 b3 : Nat) : 1 ≤ (decodeN n b0 b1 b2 b3).2 ∧ (decodeN n b0 b1 b2 b3).2 ≤ 4 ∧ (1 ≤ n → (decodeN n b0 b1 b2 b3).2 ≤ n) := by
  unfold decodeN
  repeat' split
  all_goals first | exact ⟨by decide, by decide, fun h => by simp only []; omega⟩ | (simp only []; omega)
theorem decL_pos (l : List UInt8) : 1 ≤ (decL l).2 := (decodeN_two _ _ _ _ _).1
theorem decL_le {l : List UInt8} (h : l ≠ []) : (decL l).2 ≤ l.length := (decodeN_two _ _ _ _ _).2.2 (by
  cases l with
  | nil => exact absurd rfl h
  | cons a t => simp)
theorem get_list (s : ByteArray) (i : Nat) : (s.get! i) = s.data.toList.getD i 0 := by
  obtain ⟨⟨l⟩⟩ := s
  show (⟨l⟩ : Array UInt8)[i]! = l.getD i 0
  by_cases hi : i < l.length
  · rw [getElem!_pos (⟨l⟩ : Array UInt8) i (by simpa using hi)]
    simp [List.getD, hi]
  · rw [getElem!_neg (⟨l⟩ : Array UInt8) i (by simpa using hi)]
    simp [List.getD, List.getElem?_eq_none (Nat.le_of_not_lt hi)]
    rfl
theorem decode_drop (s : ByteArray) (pos : Nat) : Utf8.decode s pos = decL (s.data.toList.drop pos) := by
  rw [decode_at, decL, List.length_drop, get_list, get_list, get_list, get_list, ← Lib.size_eq]
  simp only [List.getD, List.getElem?_drop, Nat.add_zero]
def runesF : Nat → List UInt8 → List Int
  | 0, _ => []
  | _ + 1, [] => []
  | f + 1, b :: t => ((decL (b :: t)).1 : Int) :: runesF f ((b :: t).drop (decL (b :: t)).2)
def runes (l : List UInt8) : List Int := runesF l.length l
theorem runesF_nil (f : Nat) : runesF f [] = [] := by cases f <;> rfl
theorem runesF_more : ∀ (f g : Nat) (l : List UInt8), l.length ≤ f → l.length ≤ g → runesF f l = runesF g l
  | _, _, [], _, _ => by rw [runesF_nil, runesF_nil]
  | f + 1, g + 1, b :: t, hf, hg => by
    have h1 := decL_pos (b :: t)
    have h3 : ((b :: t).drop (decL (b :: t)).2).length ≤ t.length := by rw [List.length_drop, List.length_cons]; omega
    rw [List.length_cons] at hf hg
    rw [runesF, runesF, runesF_more f g _ (by omega) (by omega)]
theorem runes_nil : runes [] = [] := rfl
theorem runes_step {l : List UInt8} (h : l ≠ []) : runes l = ((decL l).1 : Int) :: runes (l.drop (decL l).2) := by
  cases l with
  | nil => exact absurd rfl h
  | cons b t =>
    have h1 := decL_pos (b :: t)
    have h3 : ((b :: t).drop (decL (b :: t)).2).length ≤ t.length := by rw [List.length_drop, List.length_cons]; omega
    show runesF (t.length + 1) (b :: t) = _
    rw [runesF, runesF_more _ _ _ h3 (Nat.le_refl _)]
    rfl
theorem runes_len : ∀ (n : Nat) (l : List UInt8), l.length ≤ n → (runes l).length ≤ l.length
  | _, [], _ => by simp [runes_nil]
  | n + 1, b :: t, hn => by
    have h1 := decL_pos (b :: t)
    have h3 : ((b :: t).drop (decL (b :: t)).2).length ≤ t.length := by rw [List.length_drop, List.length_cons]; omega
    rw [List.length_cons] at hn
    rw [runes_step (by simp), List.length_cons, List.length_cons]
    have := runes_len n _ (Nat.le_trans h3 (by omega))
    omega
theorem runes_le (l : List UInt8) : (runes l).length ≤ l.length := runes_len _ l (Nat.le_refl _)
def stray (l : List UInt8) : Bool := decide ((decL l).1 = 65533) && decide ((decL l).2 = 1)
def wholeF : Nat → List UInt8 → Bool
  | 0, _ => true
  | _ + 1, [] => true
  | f + 1, b :: t => !stray (b :: t) && wholeF f ((b :: t).drop (decL (b :: t)).2)
def whole (l : List UInt8) : Bool := wholeF l.length l
theorem wholeF_nil (f : Nat) : wholeF f [] = true := by cases f <;> rfl
theorem wholeF_more : ∀ (f g : Nat) (l : List UInt8), l.length ≤ f → l.length ≤ g → wholeF f l = wholeF g l
  | _, _, [], _, _ => by rw [wholeF_nil, wholeF_nil]
  | f + 1, g + 1, b :: t, hf, hg => by
    have h1 := decL_pos (b :: t)
    have h3 : ((b :: t).drop (decL (b :: t)).2).length ≤ t.length := by rw [List.length_drop, List.length_cons]; omega
    rw [List.length_cons] at hf hg
    rw [wholeF, wholeF, wholeF_more f g _ (by omega) (by omega)]
theorem whole_nil : whole [] = true := rfl
theorem whole_step {l : List UInt8} (h : l ≠ []) : whole l = (!stray l && whole (l.drop (decL l).2)) := by
  cases l with
  | nil => exact absurd rfl h
  | cons b t =>
    have h1 := decL_pos (b :: t)
    have h3 : ((b :: t).drop (decL (b :: t)).2).length ≤ t.length := by rw [List.length_drop, List.length_cons]; omega
    show wholeF (t.length + 1) (b :: t) = _
    rw [wholeF, wholeF_more _ _ _ h3 (Nat.le_refl _)]
    rfl
def cmpI : List Int → List Int → Int
  | [], [] => 0
  | [], _ :: _ => -1
  | _ :: _, [] => 1
  | a :: x, b :: y => if a < b then -1 else if b < a then 1 else cmpI x y
def ahead (a b : List UInt8) : Int := if cmpI (runes a) (runes b) ≠ 0 then cmpI (runes a) (runes b) else Lib.compareBytes a b
def okRune (r : Int) : Bool := !(decide (r = 47)) && !(decide (r < 32)) && !(decide (r = 127))
def valid (l : List UInt8) : Bool := decide (1 ≤ l.length) && (decide (l.length ≤ 24) && (whole l && (decide (l ≠ [46]) && (decide (l ≠ [46, 46]) && (runes l).all okRune))))
end Go.Proofs.YtcmcmkfoihlniaaDoor.NM
end

section
namespace Go.Proofs.YtcmcmkfoihlniaaDoor.NM
open Go.RowKit Go.Proofs.YtcmcmkfoihlniaaDoorW.PrintWords Go.Proofs.YtcmcmkfoihlniaaDoorW.PrintLast Go.Proofs.YtcmcmkfoihlniaaDoorW.PrintMore Go.Proofs.YtcmcmkfoihlniaaDoor.PModelUndoes
set_option linter.unusedVariables false
set_option maxHeartbeats 4000000 in
set_option maxRecDepth 1000000 in
theorem runes_any (s : ByteArray) (w : World) (hs : s.size ≤ 17592186044416) :
    Calls Tryd.prog 83 #[.string s] w fun e w' => ∃ v, e = .returned v ∧ Kd.R (Kd.int .i32) 21 w' w.heap.size (fun _ => True) v (runes s.data.toList) ∧ Below w.heap.size w w' := by
  go_enter Tryd.func83, Tryd.ntmps83
  go_wp2
  go_loopw [3] (fun v3 wr => ∃ (pos : Nat) (acc : List Int), Aside0 (wr.heap[w.heap.size]? = some (.stringIter s pos)) ∧ Aside0 (Kd.R (Kd.int .i32) 21 wr (w.heap.size + 1) (fun _ => True) v3 acc) ∧ Aside0 (acc ++ runes (s.data.toList.drop pos) = runes s.data.toList) ∧ Aside0 (acc.length ≤ pos) ∧ Aside0 (pos ≤ s.size) ∧ Aside0 (Below w.heap.size w wr)) (fun _ wr => s.size - wr.iterPos w.heap.size)
  case atStart =>
    refine ⟨0, [], ⟨World.iter_heap w s 0⟩, ⟨Kd.R_nil _ _ _ _ _⟩, ⟨by simp⟩, ⟨Nat.le_refl _⟩, ⟨Nat.zero_le _⟩, ⟨below_alloc (Below.refl _ _) _⟩⟩
  case round =>
    obtain ⟨pos, acc, HIT, HO, HACC, HAL, HP, HB⟩ := hrel
    have hsz : w.heap.size < wr.heap.size := (Array.getElem?_eq_some_iff.1 HIT.out).1
    by_cases hp : pos < s.size
    · have hnx : ∀ ty, (Instr.next (.pointer (some ⟨w.heap.size, 0, none⟩)) true ty).run Tryd.prog wr = _ := fun ty => Lib.run_next_any_at wr w.heap.size s pos ty HIT.out hp
      rw [decode_drop] at hnx
      have hl : s.data.toList.drop pos ≠ [] := by
        intro h
        have := congrArg List.length h
        rw [List.length_drop, ← Lib.size_eq] at this
        simp at this
        omega
      have hst := runes_step hl
      have hk1 := decL_pos (s.data.toList.drop pos)
      have hk2 := decL_le hl
      rw [List.length_drop, ← Lib.size_eq] at hk2
      rw [List.drop_drop] at hst
      obtain ⟨R, hR⟩ : ∃ R : Nat, (decL (s.data.toList.drop pos)).1 = R := ⟨_, rfl⟩
      obtain ⟨K, hK⟩ : ∃ K : Nat, (decL (s.data.toList.drop pos)).2 = K := ⟨_, rfl⟩
      rw [hR, hK] at hnx hst
      rw [hK] at hk1 hk2
      have HST := Aside0.mk hst
      clear hst hR hK
      obtain ⟨W, hW⟩ : ∃ W, W = wr.iterAt w.heap.size s (pos + K) := ⟨_, rfl⟩
      rw [← hW] at hnx
      have HIT1 := Aside0.mk (show W.heap[w.heap.size]? = some (.stringIter s (pos + K)) by rw [hW]; exact Lib.iterAt_heap wr w.heap.size s pos (pos + K) HIT.out)
      have HB1 := Aside0.mk (show Below w.heap.size w W by rw [hW]; exact Lib.below_iterAt HB.out (Nat.le_refl _) s (pos + K))
      have HO1 := Aside0.mk (show Kd.R (Kd.int .i32) 21 W (w.heap.size + 1) (fun _ => True) u3 acc by
        rw [hW]
        exact Kd.R_mono (Kd.R_move (Kd.R_bound HO.out) (fun k hk => Lib.iterAt_other wr w.heap.size k s (pos + K) (by omega))) (fun _ _ => trivial))
      have hszW : w.heap.size + 1 ≤ W.heap.size := by rw [hW, Lib.iterAt_size]; omega
      have HIP := Aside0.mk (show wr.iterPos w.heap.size = pos by simp only [World.iterPos, HIT.out])
      have HX := Aside0.mk hW
      clear hW HO HIT HB hsz
      have LM := Aside0.mk (show acc.length < 35184372088832 by have := HAL.out; omega)
      go_wp2_with (((with_reducible refine gate_builtin (b := .append) (xs := #[.tmp 11, .tmp 13]) rfl ?_); at_builtin; refine Kd.R_append (Kd.int .i32) (w0 := W) (w.heap.size + 1) rfl (.tmp 11) (.tmp 13) 122 21 (.int .i32 0) 4 rfl Tryd.underlying122 info21 rfl (by decide) (by omega) u3 acc R [.int .i32 R] (fun _ => True) (fun _ => False) rfl rfl ?aP (fun _ hk => hk.elim) ?aF ?aO ?aB ?aS ?aL ?_; (case aP => exact rfl); (case aB => exact Below.refl _ _); (case aF => exact (fun _ _ => trivial)); (case aO => exact HO1.out); (case aS => exact hszW); (case aL => have := LM.out; omega); intro v1 w7 ho hb hg hat; have HO2 := Aside0.mk ho; have HB2 := Aside0.mk hb; clear ho hb hg hat))
      go_roundw
      case rel =>
        refine ⟨pos + K, acc ++ [(R : Int)], ⟨?_⟩, HO2, ⟨?_⟩, ⟨?_⟩, ⟨by omega⟩, ⟨?_⟩⟩
        · rw [HB2.out.block _ (Nat.lt_succ_self _)]; exact HIT1.out
        · rw [List.append_assoc, ← HACC.out, HST.out]; rfl
        · have := HAL.out; rw [List.length_append]; simp; omega
        · exact HB1.out.trans (HB2.out.mono (Nat.le_succ _))
      case measure =>
        have e : w7.iterPos w.heap.size = pos + K := by simp only [World.iterPos, HB2.out.block _ (Nat.lt_succ_self _), HIT1.out]
        rw [e, HIP.out]
        omega
    · have hnx : ∀ ty, (Instr.next (.pointer (some ⟨w.heap.size, 0, none⟩)) true ty).run Tryd.prog wr = _ := fun ty => Lib.run_next_end_at wr w.heap.size s pos ty HIT.out hp
      have hd : s.data.toList.drop pos = [] := List.drop_eq_nil_of_le (by rw [← Lib.size_eq]; omega)
      have HACC' := HACC.out
      rw [hd, runes_nil, List.append_nil] at HACC'
      subst HACC'
      go_wp2
      go_ret
      exact ⟨_, rfl, Kd.R_lower HO.out (Nat.le_succ _), HB.out⟩
end Go.Proofs.YtcmcmkfoihlniaaDoor.NM
end

section
namespace Go.Proofs
open Go.Shelf
def Tryd.lays213_ren : Go.Shelf.Ren := ⟨fun | 213 => 90 | 265 => 94 | n => n, fun | 9 => 9 | 3 => 3 | n => n, fun | n => n⟩
def Tryd.lays106_ren : Go.Shelf.Ren := ⟨fun | 106 => 84 | 213 => 90 | 265 => 94 | n => n, fun | 9 => 9 | 3 => 3 | n => n, fun | n => n⟩
theorem Tryd.lays106 : Go.Proofs.Lays.n106 Tryd.prog Tryd.lays106_ren := {
  mixed := by kernel_rfl
  f106 := Tryd.func84.trans (congrArg some (by kernel_rfl))
  f213 := Tryd.func90.trans (congrArg some (by kernel_rfl))
  f265 := Tryd.func94.trans (congrArg some (by kernel_rfl))
  t3 := Tryd.underlying3
  a3 := Tryd.isAgg3
  z3 := Tryd.sizeOf3
  v3 := Tryd.zeroValue3
  t9 := Tryd.underlying9
  a9 := Tryd.isAgg9
  z9 := Tryd.sizeOf9
  v9 := Tryd.zeroValue9 }
open Go.RowKit in
theorem Tryd.strings_Compare (a b : ByteArray) (w : World) :
    Calls Tryd.prog 84 #[.string a, .string b] w fun e w' => e = .returned (.int .i64 (Lib.compareBytes a.data.toList b.data.toList)) ∧ w' = w := Any.strings_Compare Tryd.lays106 a b w
def Tryd.lays197_ren : Go.Shelf.Ren := ⟨fun | 197 => 88 | 260 => 92 | n => n, fun | 9 => 9 | 21 => 21 | 3 => 3 | 4 => 4 | 5 => 5 | 105 => 126 | 119 => 131 | 0 => 0 | 46 => 132 | 139 => 135 | 138 => 134 | n => n, fun | 3 => 2 | 4 => 3 | n => n⟩
theorem Tryd.lays197 : Go.Proofs.Lays.n197 Tryd.prog Tryd.lays197_ren := {
  mixed := by kernel_rfl
  f197 := Tryd.func88.trans (congrArg some (by kernel_rfl))
  f260 := Tryd.func92.trans (congrArg some (by kernel_rfl))
  t0 := Tryd.underlying0
  a0 := Tryd.isAgg0
  z0 := Tryd.sizeOf0
  v0 := Tryd.zeroValue0
  t3 := Tryd.underlying3
  a3 := Tryd.isAgg3
  z3 := Tryd.sizeOf3
  v3 := Tryd.zeroValue3
  t4 := Tryd.underlying4
  a4 := Tryd.isAgg4
  z4 := Tryd.sizeOf4
  v4 := Tryd.zeroValue4
  t5 := Tryd.underlying5
  a5 := Tryd.isAgg5
  z5 := Tryd.sizeOf5
  v5 := Tryd.zeroValue5
  t9 := Tryd.underlying9
  a9 := Tryd.isAgg9
  z9 := Tryd.sizeOf9
  v9 := Tryd.zeroValue9
  t21 := Tryd.underlying21
  a21 := Tryd.isAgg21
  z21 := Tryd.sizeOf21
  v21 := Tryd.zeroValue21
  t46 := Tryd.underlying132
  a46 := Tryd.isAgg132
  z46 := Tryd.sizeOf132
  v46 := Tryd.zeroValue132
  t105 := Tryd.underlying126
  a105 := Tryd.isAgg126
  z105 := Tryd.sizeOf126
  v105 := Tryd.zeroValue126
  t119 := Tryd.underlying131
  a119 := Tryd.isAgg131
  z119 := Tryd.sizeOf131
  t138 := Tryd.underlying134
  a138 := Tryd.isAgg134
  z138 := Tryd.sizeOf134
  v138 := Tryd.zeroValue134
  t139 := Tryd.underlying135
  a139 := Tryd.isAgg135
  z139 := Tryd.sizeOf135
  v139 := Tryd.zeroValue135
  g3 := by kernel_rfl
  g4 := by kernel_rfl }
def Tryd.lays260_ren : Go.Shelf.Ren := ⟨fun | 260 => 92 | n => n, fun | 9 => 9 | 21 => 21 | 3 => 3 | 4 => 4 | 5 => 5 | 119 => 131 | 0 => 0 | 46 => 132 | 139 => 135 | 138 => 134 | n => n, fun | 3 => 2 | 4 => 3 | n => n⟩
theorem Tryd.lays260 : Go.Proofs.Lays.n260 Tryd.prog Tryd.lays260_ren := {
  mixed := by kernel_rfl
  f260 := Tryd.func92.trans (congrArg some (by kernel_rfl))
  t0 := Tryd.underlying0
  a0 := Tryd.isAgg0
  z0 := Tryd.sizeOf0
  v0 := Tryd.zeroValue0
  t3 := Tryd.underlying3
  a3 := Tryd.isAgg3
  z3 := Tryd.sizeOf3
  v3 := Tryd.zeroValue3
  t4 := Tryd.underlying4
  a4 := Tryd.isAgg4
  z4 := Tryd.sizeOf4
  v4 := Tryd.zeroValue4
  t5 := Tryd.underlying5
  a5 := Tryd.isAgg5
  z5 := Tryd.sizeOf5
  v5 := Tryd.zeroValue5
  t9 := Tryd.underlying9
  a9 := Tryd.isAgg9
  z9 := Tryd.sizeOf9
  v9 := Tryd.zeroValue9
  t21 := Tryd.underlying21
  a21 := Tryd.isAgg21
  z21 := Tryd.sizeOf21
  v21 := Tryd.zeroValue21
  t46 := Tryd.underlying132
  a46 := Tryd.isAgg132
  z46 := Tryd.sizeOf132
  v46 := Tryd.zeroValue132
  t119 := Tryd.underlying131
  a119 := Tryd.isAgg131
  z119 := Tryd.sizeOf131
  t138 := Tryd.underlying134
  a138 := Tryd.isAgg134
  z138 := Tryd.sizeOf134
  v138 := Tryd.zeroValue134
  t139 := Tryd.underlying135
  a139 := Tryd.isAgg135
  z139 := Tryd.sizeOf135
  v139 := Tryd.zeroValue135
  g3 := by kernel_rfl
  g4 := by kernel_rfl }
open Go.RowKit Go.Lib in
theorem Tryd.utf8_DecodeRuneInString (s : ByteArray) (w : World) (hT : Lib.Utf8Tabs 2 3 w) :
    Calls Tryd.prog 88 #[.string s] w fun e w' => e = .returned (.tuple #[.int .i32 (Lib.decodeGo s).1, .int .i64 (Lib.decodeGo s).2]) ∧ Below w.heap.size w w' := Any.utf8_DecodeRuneInString Tryd.lays197 s w hT
end Go.Proofs
end

section
namespace Go.Proofs.YtcmcmkfoihlniaaDoor.NM
open Go.RowKit Go.Proofs.YtcmcmkfoihlniaaDoorW.PrintWords Go.Proofs.YtcmcmkfoihlniaaDoorW.PrintLast Go.Proofs.YtcmcmkfoihlniaaDoorW.PrintMore Go.Proofs.YtcmcmkfoihlniaaDoor.PModelUndoes
set_option linter.unusedVariables false
theorem extract_data (s : ByteArray) (i j : Nat) : (s.extract i j).data.toList = (s.data.toList.take j).drop i := by
  simp [List.drop_take]
theorem extract_end (s : ByteArray) (i : Nat) : (s.extract i s.size).data.toList = s.data.toList.drop i := by
  rw [extract_data, List.take_of_length_le (by rw [← Lib.size_eq]; exact Nat.le_refl _)]
theorem decodeGo_drop (s : ByteArray) (pos : Nat) (hp : pos < s.size) : Lib.decodeGo (s.extract pos s.size) = decL (s.data.toList.drop pos) := by
  have e : (s.extract pos s.size).size ≠ 0 := by
    rw [Lib.size_eq, extract_end, List.length_drop, ← Lib.size_eq]
    omega
  simp only [Lib.decodeGo, e, if_false]
  rw [decode_drop, extract_end, List.drop_zero]
theorem drop_ne (s : ByteArray) (pos : Nat) (hp : pos < s.size) : s.data.toList.drop pos ≠ [] := by
  intro h
  have := congrArg List.length h
  rw [List.length_drop, ← Lib.size_eq] at this
  simp at this
  omega
set_option maxHeartbeats 4000000 in
set_option maxRecDepth 1000000 in
theorem whole_any (s : ByteArray) (w : World) (hs : s.size ≤ 9223372036854775807) (hT : Lib.Utf8Tabs 2 3 w) :
    Calls Tryd.prog 81 #[.string s] w fun e w' => e = .returned (.bool (whole s.data.toList)) ∧ Below w.heap.size w w' := by
  have HT := Aside0.mk hT
  clear hT
  go_enter Tryd.func81, Tryd.ntmps81
  go_wp2
  go_loopw [] (fun wr => ∃ (pos : Nat), Aside0 (wr.heap[w.heap.size]? = some (.stringIter s pos)) ∧ Aside0 (whole (s.data.toList.drop pos) = whole s.data.toList) ∧ Aside0 (pos ≤ s.size) ∧ Aside0 (Below w.heap.size w wr)) (fun wr => s.size - wr.iterPos w.heap.size)
  case atStart =>
    refine ⟨0, ⟨World.iter_heap w s 0⟩, ⟨by simp⟩, ⟨Nat.zero_le _⟩, ⟨below_alloc (Below.refl _ _) _⟩⟩
  case round =>
    obtain ⟨pos, HIT, HACC, HP, HB⟩ := hrel
    have hsz : w.heap.size < wr.heap.size := (Array.getElem?_eq_some_iff.1 HIT.out).1
    by_cases hp : pos < s.size
    · have hnx : ∀ ty, (Instr.next (.pointer (some ⟨w.heap.size, 0, none⟩)) true ty).run Tryd.prog wr = _ := fun ty => Lib.run_next_any_at wr w.heap.size s pos ty HIT.out hp
      rw [decode_drop] at hnx
      have hl := drop_ne s pos hp
      have hst := whole_step hl
      have hk1 := decL_pos (s.data.toList.drop pos)
      have hk2 := decL_le hl
      have hdg := decodeGo_drop s pos hp
      rw [List.length_drop, ← Lib.size_eq] at hk2
      rw [List.drop_drop] at hst
      unfold stray at hst
      obtain ⟨R, hR⟩ : ∃ R : Nat, (decL (s.data.toList.drop pos)).1 = R := ⟨_, rfl⟩
      obtain ⟨K, hK⟩ : ∃ K : Nat, (decL (s.data.toList.drop pos)).2 = K := ⟨_, rfl⟩
      rw [hR, hK] at hnx hst
      rw [hK] at hk1 hk2
      have HST := Aside0.mk hst
      obtain ⟨W, hW⟩ : ∃ W, W = wr.iterAt w.heap.size s (pos + K) := ⟨_, rfl⟩
      rw [← hW] at hnx
      have HIT1 := Aside0.mk (show W.heap[w.heap.size]? = some (.stringIter s (pos + K)) by rw [hW]; exact Lib.iterAt_heap wr w.heap.size s pos (pos + K) HIT.out)
      have HB1 := Aside0.mk (show Below w.heap.size w W by rw [hW]; exact Lib.below_iterAt HB.out (Nat.le_refl _) s (pos + K))
      have hszW : w.heap.size + 1 ≤ W.heap.size := by rw [hW, Lib.iterAt_size]; omega
      have HIP := Aside0.mk (show wr.iterPos w.heap.size = pos by simp only [World.iterPos, HIT.out])
      have cD := Tryd.utf8_DecodeRuneInString (s.extract pos s.size) W (Utf8Tabs_below HT.out HB1.out)
      rw [hdg, hR, hK] at cD
      clear hst hR hK hW HIT HB hsz hdg
      have b1 : (pos : Int) ≤ (s.size : Int) := by omega
      have b2 : (0 : Int) ≤ (pos : Int) := by omega
      have hc1 : decide ((R : Int) = 65533) = decide (R = 65533) := by congr 1; exact propext ⟨fun h => by omega, fun h => by omega⟩
      have hc2 : decide ((K : Int) = 1) = decide (K = 1) := by congr 1; exact propext ⟨fun h => by omega, fun h => by omega⟩
      go_wp2_with (first | (go_at_call 88; refine cD.mono ?_; rintro e w7 ⟨rfl, hb⟩; have HB2 := Aside0.mk hb; clear hb))
      · have c1 : R = 65533 := by omega
        have c2 : K = 1 := by
          have : (K : Int) = 1 := eq_of_beq (by assumption)
          omega
        have hW := HST.out
        rw [c1, c2] at hW
        simp only [decide_true, Bool.and_self, Bool.not_true, Bool.false_and] at hW
        go_ret
        exact ⟨by rw [← HACC.out, hW]; rfl, HB1.out.trans (HB2.out.mono (by omega))⟩
      all_goals (
        have hW := HST.out
        have c2 : (decide (R = 65533) && decide (K = 1)) = false := by
          first
          | (have : ¬ ((R : Int) = 65533) := by assumption
             simp; omega)
          | (have h1 : ((K : Int) == 1) = false := by assumption
             have h2 : ¬ ((K : Int) = 1) := by intro h; rw [h] at h1; exact absurd h1 (by decide)
             simp; omega)
        rw [c2] at hW
        have HIT2 := HB2.out.block w.heap.size (by omega)
        rw [HIT1.out] at HIT2
        refine ⟨⟨pos + K, ⟨HIT2⟩, ⟨?_⟩, ⟨by omega⟩, ⟨HB1.out.trans (HB2.out.mono (by omega))⟩⟩, ?_⟩
        · rw [← HACC.out, hW]; simp
        · have e : w7.iterPos w.heap.size = pos + K := by simp only [World.iterPos, HIT2]
          rw [e, HIP.out]
          omega)
    · have hnx : ∀ ty, (Instr.next (.pointer (some ⟨w.heap.size, 0, none⟩)) true ty).run Tryd.prog wr = _ := fun ty => Lib.run_next_end_at wr w.heap.size s pos ty HIT.out hp
      have hd : s.data.toList.drop pos = [] := List.drop_eq_nil_of_le (by rw [← Lib.size_eq]; omega)
      have HACC' := HACC.out
      rw [hd, whole_nil] at HACC'
      have HW := Aside0.mk HACC'
      clear HACC'
      go_wp2
      go_ret
      exact ⟨by rw [← HW.out]; rfl, HB.out⟩
end Go.Proofs.YtcmcmkfoihlniaaDoor.NM
end

section
namespace Go.Proofs.YtcmcmkfoihlniaaDoor.NM
open Go.RowKit Go.Proofs.YtcmcmkfoihlniaaDoorW.PrintWords Go.Proofs.YtcmcmkfoihlniaaDoorW.PrintLast Go.Proofs.YtcmcmkfoihlniaaDoorW.PrintMore Go.Proofs.YtcmcmkfoihlniaaDoor.PModelUndoes
set_option linter.unusedVariables false
set_option maxHeartbeats 4000000 in
set_option maxRecDepth 1000000 in
theorem valid_any (s : ByteArray) (w : World) (hs : s.size ≤ 9223372036854775807) (hT : Lib.Utf8Tabs 2 3 w) :
    Calls Tryd.prog 68 #[.string s] w fun e w' => e = .returned (.bool (valid s.data.toList)) ∧ Below w.heap.size w w' := by
  have HT := Aside0.mk hT
  have cW := Aside0.mk (whole_any s w hs hT)
  clear hT
  obtain ⟨V, hV⟩ : ∃ V, valid s.data.toList = V := ⟨_, rfl⟩
  obtain ⟨Wb, hWb⟩ : ∃ Wb, whole s.data.toList = Wb := ⟨_, rfl⟩
  rw [hV]
  unfold valid at hV
  rw [hWb, ← Lib.size_eq] at hV
  rw [hWb] at cW
  clear hWb
  have ht : s.toList = s.data.toList := Lib.toList_data s
  by_cases c1 : 1 ≤ s.size
  rotate_left
  · have hv : V = false := by rw [← hV, decide_eq_false c1, Bool.false_and]
    clear hV
    have z1 : (s.size : Int) < 1 := by omega
    subst hv
    go_enter Tryd.func68, Tryd.ntmps68
    go_wp2
    go_ret
    exact ⟨rfl, Below.refl _ _⟩
  have z1 : ¬ ((s.size : Int) < 1) := by omega
  have y1 : (1 : Int) ≤ (s.size : Int) := by omega
  rw [decide_eq_true c1, Bool.true_and] at hV
  clear c1
  by_cases c2 : s.size ≤ 24
  rotate_left
  · have hv : V = false := by rw [← hV, decide_eq_false c2, Bool.false_and]
    clear hV
    have z2 : (24 : Int) < (s.size : Int) := by omega
    subst hv
    go_enter Tryd.func68, Tryd.ntmps68
    go_wp2
    go_ret
    exact ⟨rfl, Below.refl _ _⟩
  have z2 : ¬ ((24 : Int) < (s.size : Int)) := by omega
  have y2 : (s.size : Int) ≤ 24 := by omega
  rw [decide_eq_true c2, Bool.true_and] at hV
  clear c2
  cases Wb with
  | false =>
    have hv : V = false := by rw [← hV, Bool.false_and]
    clear hV
    subst hv
    go_enter Tryd.func68, Tryd.ntmps68
    go_wp2_with (first | (go_at_call 81; refine cW.out.mono ?_; rintro e w7 ⟨rfl, hb⟩; have HB2 := Aside0.mk hb; clear hb))
    go_ret
    exact ⟨rfl, HB2.out⟩
  | true =>
    rw [Bool.true_and] at hV
    by_cases c3 : s.data.toList = [46]
    · have hv : V = false := by rw [← hV, decide_eq_false (by simp [c3]), Bool.false_and]
      clear hV
      subst hv
      have z3 : (s.toList == [46]) = true := by rw [ht, c3]; rfl
      have y3 : s.toList = [46] := by rw [ht, c3]
      clear ht
      go_enter Tryd.func68, Tryd.ntmps68
      go_wp2_with (first | (go_at_call 81; refine cW.out.mono ?_; rintro e w7 ⟨rfl, hb⟩; have HB2 := Aside0.mk hb; clear hb))
      go_ret
      exact ⟨rfl, HB2.out⟩
    rw [decide_eq_true c3, Bool.true_and] at hV
    have z3 : (s.toList == [46]) = false := by rw [ht]; exact beq_eq_false_iff_ne.2 c3
    have y3 : ¬ s.toList = [46] := by rw [ht]; exact c3
    by_cases c4 : s.data.toList = [46, 46]
    · have hv : V = false := by rw [← hV, decide_eq_false (by simp [c4]), Bool.false_and]
      clear hV
      subst hv
      have z4 : (s.toList == [46, 46]) = true := by rw [ht, c4]; rfl
      have y4 : s.toList = [46, 46] := by rw [ht, c4]
      clear ht c3
      go_enter Tryd.func68, Tryd.ntmps68
      go_wp2_with (first | (go_at_call 81; refine cW.out.mono ?_; rintro e w7 ⟨rfl, hb⟩; have HB2 := Aside0.mk hb; clear hb))
      go_ret
      exact ⟨rfl, HB2.out⟩
    rw [decide_eq_true c4, Bool.true_and] at hV
    have z4 : (s.toList == [46, 46]) = false := by rw [ht]; exact beq_eq_false_iff_ne.2 c4
    have y4 : ¬ s.toList = [46, 46] := by rw [ht]; exact c4
    have HV := Aside0.mk hV
    clear hV ht c3 c4
    go_enter Tryd.func68, Tryd.ntmps68
    go_wp2_with (first | (go_at_call 81; refine cW.out.mono ?_; rintro e w7 ⟨rfl, hb⟩; have HB2 := Aside0.mk hb; clear hb))
    go_loopw [] (fun wr => ∃ (pos : Nat), Aside0 (wr.heap[w7.heap.size]? = some (.stringIter s pos)) ∧ Aside0 ((runes (s.data.toList.drop pos)).all okRune = V) ∧ Aside0 (pos ≤ s.size) ∧ Aside0 (Below w.heap.size w wr) ∧ Aside0 (Below w7.heap.size w7 wr)) (fun wr => s.size - wr.iterPos w7.heap.size)
    case atStart =>
      refine ⟨0, ⟨World.iter_heap w7 s 0⟩, ⟨by rw [List.drop_zero]; exact HV.out⟩, ⟨Nat.zero_le _⟩, ⟨below_alloc HB2.out _⟩, ⟨below_alloc (Below.refl _ _) _⟩⟩
    case round =>
      obtain ⟨pos, HIT, HACC, HP, HB, HB7⟩ := hrel
      have HSZ := Aside0.mk (show w.heap.size ≤ w7.heap.size from below_size HB2.out)
      by_cases hp : pos < s.size
      · have hnx : ∀ ty, (Instr.next (.pointer (some ⟨w7.heap.size, 0, none⟩)) true ty).run Tryd.prog wr = _ := fun ty => Lib.run_next_any_at wr w7.heap.size s pos ty HIT.out hp
        rw [decode_drop] at hnx
        have hl := drop_ne s pos hp
        have hst := runes_step hl
        have hk1 := decL_pos (s.data.toList.drop pos)
        have hk2 := decL_le hl
        rw [List.length_drop, ← Lib.size_eq] at hk2
        rw [List.drop_drop] at hst
        obtain ⟨R, hR⟩ : ∃ R : Nat, (decL (s.data.toList.drop pos)).1 = R := ⟨_, rfl⟩
        obtain ⟨K, hK⟩ : ∃ K : Nat, (decL (s.data.toList.drop pos)).2 = K := ⟨_, rfl⟩
        rw [hR, hK] at hnx hst
        rw [hK] at hk1 hk2
        have hacc := HACC.out
        rw [hst, List.all_cons] at hacc
        unfold okRune at hacc
        have HA := Aside0.mk hacc
        obtain ⟨W, hW⟩ : ∃ W, W = wr.iterAt w7.heap.size s (pos + K) := ⟨_, rfl⟩
        rw [← hW] at hnx
        have HIT1 := Aside0.mk (show W.heap[w7.heap.size]? = some (.stringIter s (pos + K)) by rw [hW]; exact Lib.iterAt_heap wr w7.heap.size s pos (pos + K) HIT.out)
        have HB1 := Aside0.mk (show Below w.heap.size w W by rw [hW]; exact Lib.below_iterAt HB.out HSZ.out s (pos + K))
        have HB71 := Aside0.mk (show Below w7.heap.size w7 W by rw [hW]; exact Lib.below_iterAt HB7.out (Nat.le_refl _) s (pos + K))
        have HIP := Aside0.mk (show wr.iterPos w7.heap.size = pos by simp only [World.iterPos, HIT.out])
        clear hst hR hK hW HIT HB HB7 hacc
        by_cases r1 : (R : Int) = 47
        · have d1 : decide ((R : Int) = 47) = true := decide_eq_true r1
          have q1 : ((R : Int) == 47) = true := by rw [r1]; rfl
          have hv := HA.out
          rw [d1] at hv
          simp only [Bool.not_true, Bool.false_and] at hv
          subst hv
          go_wp2
          go_ret
          exact ⟨rfl, HB1.out⟩
        have d1 : decide ((R : Int) = 47) = false := decide_eq_false r1
        have q1 : ((R : Int) == 47) = false := beq_eq_false_iff_ne.2 r1
        by_cases r2 : (R : Int) < 32
        · have d2 : decide ((R : Int) < 32) = true := decide_eq_true r2
          have hv := HA.out
          rw [d1, d2] at hv
          simp only [Bool.not_true, Bool.not_false, Bool.and_false, Bool.false_and] at hv
          subst hv
          go_wp2
          go_ret
          exact ⟨rfl, HB1.out⟩
        have d2 : decide ((R : Int) < 32) = false := decide_eq_false r2
        by_cases r3 : (R : Int) = 127
        · have d3 : decide ((R : Int) = 127) = true := decide_eq_true r3
          have q3 : ((R : Int) == 127) = true := by rw [r3]; rfl
          have hv := HA.out
          rw [d1, d2, d3] at hv
          simp only [Bool.not_true, Bool.not_false, Bool.and_false, Bool.false_and] at hv
          subst hv
          go_wp2
          go_ret
          exact ⟨rfl, HB1.out⟩
        have d3 : decide ((R : Int) = 127) = false := decide_eq_false r3
        have q3 : ((R : Int) == 127) = false := beq_eq_false_iff_ne.2 r3
        have hv := HA.out
        rw [d1, d2, d3] at hv
        simp only [Bool.not_false, Bool.and_self, Bool.true_and] at hv
        have HV2 := Aside0.mk hv
        clear hv
        go_wp2
        go_roundw
        case rel =>
          exact ⟨pos + K, HIT1, HV2, ⟨by omega⟩, HB1, HB71⟩
        case measure =>
          have e : W.iterPos w7.heap.size = pos + K := by simp only [World.iterPos, HIT1.out]
          rw [e, HIP.out]
          omega
      · have hnx : ∀ ty, (Instr.next (.pointer (some ⟨w7.heap.size, 0, none⟩)) true ty).run Tryd.prog wr = _ := fun ty => Lib.run_next_end_at wr w7.heap.size s pos ty HIT.out hp
        have hd : s.data.toList.drop pos = [] := List.drop_eq_nil_of_le (by rw [← Lib.size_eq]; omega)
        have HACC' := HACC.out
        rw [hd, runes_nil, List.all_nil] at HACC'
        subst HACC'
        go_wp2
        go_ret
        exact ⟨rfl, HB.out⟩
end Go.Proofs.YtcmcmkfoihlniaaDoor.NM
end

section
namespace Go.Proofs.YtcmcmkfoihlniaaDoor.MM
open Go Go.RowKit Go.Proofs.YtcmcmkfoihlniaaDoor.NM Go.Proofs.YtcmcmkfoihlniaaDoorW.PrintWords Go.Proofs.YtcmcmkfoihlniaaDoorW.PrintLast Go.Proofs.YtcmcmkfoihlniaaDoorW.PrintMore Go.Proofs.YtcmcmkfoihlniaaDoor.PModelUndoes
set_option linter.unusedVariables false
set_option linter.unusedSimpArgs false
def cutL (s : ByteArray) : Nat → Nat → Nat → List ByteArray
  | 0, _, _ => []
  | f + 1, pos, fr => if pos < s.size then (if (decL (s.data.toList.drop pos)).1 = 47 then s.extract fr pos :: cutL s f (pos + (decL (s.data.toList.drop pos)).2) (pos + 1) else cutL s f (pos + (decL (s.data.toList.drop pos)).2) fr) else [s.extract fr s.size]
def cutR (s : ByteArray) : List ByteArray := cutL s (s.size + 1) 0 0
theorem infoS : (Tryd.prog.info? 9).map (fun i => (i.zero, i.size, i.bytes)) = some (some (.string ⟨#[]⟩), 1, 16) := by kernel_rfl
set_option maxHeartbeats 4000000 in
set_option maxRecDepth 1000000 in
theorem cut_any (s : ByteArray) (w : World) (hs : s.size ≤ 17592186044) :
    Calls Tryd.prog 66 #[.string s] w fun e w' => ∃ v, e = .returned v ∧ Kd.R Kd.string 9 w' w.heap.size (fun _ => True) v (cutR s) ∧ Below w.heap.size w w' := by
  have LS := Aside0.mk hs
  clear hs
  go_enter Tryd.func66, Tryd.ntmps66
  go_wp2
  go_loopw [3, 4] (fun v3 v4 wr => ∃ (pos fr f : Nat) (acc : List ByteArray), v4 = .int .i64 fr ∧ Aside0 (wr.heap[w.heap.size]? = some (.stringIter s pos)) ∧ Aside0 (Kd.R Kd.string 9 wr (w.heap.size + 1) (fun _ => True) v3 acc) ∧ Aside0 (acc ++ cutL s f pos fr = cutR s) ∧ Aside0 (acc.length ≤ pos) ∧ Aside0 (fr ≤ pos ∧ pos ≤ s.size ∧ s.size < pos + f) ∧ Aside0 (Below w.heap.size w wr)) (fun _ _ wr => s.size - wr.iterPos w.heap.size)
  case atStart =>
    refine ⟨0, 0, s.size + 1, [], rfl, ⟨World.iter_heap w s 0⟩, ⟨Kd.R_nil _ _ _ _ _⟩, ⟨rfl⟩, ⟨Nat.le_refl _⟩, ⟨Nat.le_refl _, Nat.zero_le _, by omega⟩, ⟨below_alloc (Below.refl _ _) _⟩⟩
  case round =>
    obtain ⟨pos, fr, f, acc, rfl, HIT, HO, HACC, HAL, HP, HB⟩ := hrel
    have hsz : w.heap.size < wr.heap.size := (Array.getElem?_eq_some_iff.1 HIT.out).1
    obtain ⟨f, rfl⟩ : ∃ g, f = g + 1 := ⟨f - 1, by have := HP.out; omega⟩
    by_cases hp : pos < s.size
    · have hnx : ∀ ty, (Instr.next (.pointer (some ⟨w.heap.size, 0, none⟩)) true ty).run Tryd.prog wr = _ := fun ty => Lib.run_next_any_at wr w.heap.size s pos ty HIT.out hp
      rw [decode_drop] at hnx
      have hl : s.data.toList.drop pos ≠ [] := by
        intro h
        have := congrArg List.length h
        rw [List.length_drop, ← Lib.size_eq] at this
        simp at this
        omega
      have hk1 := decL_pos (s.data.toList.drop pos)
      have hk2 := decL_le hl
      rw [List.length_drop, ← Lib.size_eq] at hk2
      have hac := HACC.out
      rw [cutL, if_pos hp] at hac
      obtain ⟨R, hR⟩ : ∃ R : Nat, (decL (s.data.toList.drop pos)).1 = R := ⟨_, rfl⟩
      obtain ⟨K, hK⟩ : ∃ K : Nat, (decL (s.data.toList.drop pos)).2 = K := ⟨_, rfl⟩
      rw [hR, hK] at hnx hac
      rw [hK] at hk1 hk2
      clear hR hK
      obtain ⟨W, hW⟩ : ∃ W, W = wr.iterAt w.heap.size s (pos + K) := ⟨_, rfl⟩
      rw [← hW] at hnx
      have HIT1 := Aside0.mk (show W.heap[w.heap.size]? = some (.stringIter s (pos + K)) by rw [hW]; exact Lib.iterAt_heap wr w.heap.size s pos (pos + K) HIT.out)
      have HB1 := Aside0.mk (show Below w.heap.size w W by rw [hW]; exact Lib.below_iterAt HB.out (Nat.le_refl _) s (pos + K))
      have HO1 := Aside0.mk (show Kd.R Kd.string 9 W (w.heap.size + 1) (fun _ => True) u3 acc by
        rw [hW]
        exact Kd.R_mono (Kd.R_move (Kd.R_bound HO.out) (fun k hk => Lib.iterAt_other wr w.heap.size k s (pos + K) (by omega))) (fun _ _ => trivial))
      have hszW : w.heap.size + 1 ≤ W.heap.size := by rw [hW, Lib.iterAt_size]; omega
      have HIP := Aside0.mk (show wr.iterPos w.heap.size = pos by simp only [World.iterPos, HIT.out])
      have HX := Aside0.mk hW
      have HK := Aside0.mk (show 1 ≤ K ∧ K ≤ s.size - pos from ⟨hk1, hk2⟩)
      clear hW HO HIT HB hsz hk1 hk2 HACC hl
      have LM := Aside0.mk (show acc.length < 1759218604 * 100 by have := HAL.out; have := LS.out; omega)
      by_cases hr : R = 47
      · subst hr
        rw [if_pos rfl] at hac
        have HACC := Aside0.mk hac
        clear hac
        have b0 : (0 : Int) ≤ (fr : Int) := Int.natCast_nonneg _
        have b1 : (fr : Int) ≤ (pos : Int) := by have := HP.out; omega
        have b2 : (pos : Int) ≤ (s.size : Int) := by omega
        go_wp2_with (((with_reducible refine gate_builtin (b := .append) (xs := #[.tmp 15, .tmp 20]) rfl ?_); at_builtin; refine Kd.R_append Kd.string (w0 := W) (w.heap.size + 1) rfl (.tmp 15) (.tmp 20) 50 9 (.string ⟨#[]⟩) 16 rfl Tryd.underlying50 infoS rfl (by decide) (by omega) u3 acc (s.extract fr pos) [.string (s.extract fr pos)] (fun _ => True) (fun _ => False) rfl rfl ?aP (fun _ hk => hk.elim) ?aF ?aO ?aB ?aS ?aL ?_; (case aP => exact rfl); (case aB => exact Below.refl _ _); (case aF => exact (fun _ _ => trivial)); (case aO => exact HO1.out); (case aS => exact hszW); (case aL => have := LM.out; omega); intro v1 w7 ho hb hg hat; have HO2 := Aside0.mk ho; have HB2 := Aside0.mk hb; clear ho hb hg hat))
        go_roundw
        case rel =>
          have h1 := HP.out
          have h2 := HK.out
          refine ⟨pos + K, pos + 1, f, acc ++ [s.extract fr pos], ?_, ⟨?_⟩, HO2, ⟨?_⟩, ⟨?_⟩, ⟨by omega⟩, ⟨?_⟩⟩
          · have h3 := LS.out
            exact congrArg (Value.int .i64) ((IntWalk.wrap64_in _ ⟨by omega, by omega⟩).trans (by omega))
          · rw [HB2.out.block _ (Nat.lt_succ_self _)]; exact HIT1.out
          · rw [List.append_assoc]; exact HACC.out
          · have := HAL.out; rw [List.length_append]; simp; omega
          · exact HB1.out.trans (HB2.out.mono (Nat.le_succ _))
        case measure =>
          have e : w7.iterPos w.heap.size = pos + K := by simp only [World.iterPos, HB2.out.block _ (Nat.lt_succ_self _), HIT1.out]
          have h2 := HK.out
          rw [e, HIP.out]
          omega
      · rw [if_neg hr] at hac
        have HACC := Aside0.mk hac
        have hr1 : ((R : Int) == 47) = false := beq_eq_false_iff_ne.2 (by omega)
        clear hac
        go_wp2
        go_roundw
        case rel =>
          have h1 := HP.out
          have h2 := HK.out
          refine ⟨pos + K, fr, f, acc, rfl, HIT1, HO1, HACC, ⟨by have := HAL.out; omega⟩, ⟨by omega⟩, HB1⟩
        case measure =>
          have e : W.iterPos w.heap.size = pos + K := by simp only [World.iterPos, HIT1.out]
          have h2 := HK.out
          rw [e, HIP.out]
          omega
    · have hnx : ∀ ty, (Instr.next (.pointer (some ⟨w.heap.size, 0, none⟩)) true ty).run Tryd.prog wr = _ := fun ty => Lib.run_next_end_at wr w.heap.size s pos ty HIT.out hp
      have hac := HACC.out
      rw [cutL, if_neg hp] at hac
      have HACC' := Aside0.mk hac
      clear hac
      have b0 : (0 : Int) ≤ (fr : Int) := Int.natCast_nonneg _
      have b1 : (fr : Int) ≤ (s.size : Int) := by have := HP.out; omega
      have LM := Aside0.mk (show acc.length < 1759218604 * 100 by have := HAL.out; have := LS.out; have := HP.out; omega)
      go_wp2_with (((with_reducible refine gate_builtin (b := .append) (xs := #[.tmp 24, .tmp 28]) rfl ?_); at_builtin; refine Kd.R_append Kd.string (w0 := wr) (w.heap.size + 1) rfl (.tmp 24) (.tmp 28) 50 9 (.string ⟨#[]⟩) 16 rfl Tryd.underlying50 infoS rfl (by decide) (by omega) u3 acc (s.extract fr s.size) [.string (s.extract fr s.size)] (fun _ => True) (fun _ => False) rfl rfl ?aP (fun _ hk => hk.elim) ?aF ?aO ?aB ?aS ?aL ?_; (case aP => exact rfl); (case aB => exact Below.refl _ _); (case aF => exact (fun _ _ => trivial)); (case aO => exact HO.out); (case aS => exact hsz); (case aL => have := LM.out; omega); intro v1 w7 ho hb hg hat; have HO2 := Aside0.mk ho; have HB2 := Aside0.mk hb; clear ho hb hg hat))
      go_ret
      rw [← HACC'.out]
      exact ⟨_, rfl, Kd.R_lower HO2.out (Nat.le_succ _), HB.out.trans (HB2.out.mono (Nat.le_succ _))⟩
end Go.Proofs.YtcmcmkfoihlniaaDoor.MM
end

section
namespace Go.Proofs.YtcmcmkfoihlniaaDoor.NMV
open Go.RowKit Go.Proofs.YtcmcmkfoihlniaaDoorW.PrintWords Go.Proofs.YtcmcmkfoihlniaaDoorW.PrintLast Go.Proofs.YtcmcmkfoihlniaaDoorW.PrintMore Go.Proofs.YtcmcmkfoihlniaaDoor.PModelUndoes Go.Proofs.YtcmcmkfoihlniaaDoor.NM
set_option linter.unusedVariables false
theorem rd_drop {l : List Int} {i : Nat} (h : i < l.length) : l.drop i = rd l (i : Int) :: l.drop (i + 1) := by
  rw [List.drop_eq_getElem_cons h]
  simp [rd, List.getD, h]
theorem cmp_f (a b : Int) : cmp_Compare_rune.f a b = some (if a < b then -1 else if b < a then 1 else 0) := by
  unfold cmp_Compare_rune.f cmp_isNaN_rune.f
  simp only [bne_self_eq_false, Option.bind_some, Bool.false_eq_true, if_false, gt_iff_lt]
  repeat' split
  all_goals rfl
theorem cmpI_nil (b : List Int) : cmpI [] b = if b.length = 0 then 0 else -1 := by cases b <;> rfl
theorem slc_l (a b : List Int) (ha : a.length ≤ 9223372036854775806) : ∀ (j k i : Nat), a.length ≤ i + j → i ≤ a.length → i ≤ b.length → slices_Compare_rune_rune.l0 (k + 1 + j) a b a a.length i = some (cmpI (a.drop i) (b.drop i))
  | 0, k, i, hj, hi, hb => by
    rw [slices_Compare_rune_rune.l0, if_neg (by omega), List.drop_eq_nil_of_le (by omega), cmpI_nil, List.length_drop]
    by_cases h : a.length < b.length
    · rw [if_pos (by omega), if_neg (by omega)]
    · rw [if_neg (by omega), if_pos (by omega)]
  | j + 1, k, i, hj, hi, hb => by
    show slices_Compare_rune_rune.l0 (k + 1 + j + 1) a b a a.length i = _
    by_cases h : i < a.length
    · rw [slices_Compare_rune_rune.l0, if_pos (by omega), if_pos (by omega), if_pos (by omega), rd_drop h]
      by_cases h2 : i < b.length
      · rw [if_neg (by omega), if_pos (by omega), rd_drop (l := b) h2, cmp_f, Option.bind_some, IntWalk.wrap64_in _ (by omega)]
        have e := slc_l a b ha j k (i + 1) (by omega) (by omega) (by omega)
        rw [cmpI, ← Int.natCast_succ, e]
        by_cases c1 : rd a i < rd b i
        · rw [if_pos c1, if_pos c1, if_neg (by decide)]
        · rw [if_neg c1, if_neg c1]
          by_cases c2 : rd b i < rd a i
          · rw [if_pos c2, if_pos c2, if_neg (by decide)]
          · rw [if_neg c2, if_neg c2, if_pos rfl]
      · rw [if_pos (by omega), List.drop_eq_nil_of_le («as» := b) (by omega)]
        rfl
    · rw [slices_Compare_rune_rune.l0, if_neg (by omega), List.drop_eq_nil_of_le («as» := a) (by omega), cmpI_nil, List.length_drop]
      by_cases h : a.length < b.length
      · rw [if_pos (by omega), if_neg (by omega)]
      · rw [if_neg (by omega), if_pos (by omega)]
theorem slc_f (a b : List Int) (ha : a.length ≤ 9223372036854775806) (k : Nat) (hk : a.length + 1 ≤ k) : slices_Compare_rune_rune.f k a b = some (cmpI a b) := by
  obtain ⟨d, rfl⟩ : ∃ d, k = d + 1 + a.length := ⟨k - 1 - a.length, by omega⟩
  exact slc_l a b ha a.length d 0 (by omega) (by omega) (by omega)
end Go.Proofs.YtcmcmkfoihlniaaDoor.NMV
end

section
namespace Go.Proofs.YtcmcmkfoihlniaaDoor.NM
open Go.RowKit Go.Proofs.YtcmcmkfoihlniaaDoorW.PrintWords Go.Proofs.YtcmcmkfoihlniaaDoorW.PrintLast Go.Proofs.YtcmcmkfoihlniaaDoorW.PrintMore Go.Proofs.YtcmcmkfoihlniaaDoor.PModelUndoes
set_option linter.unusedVariables false
set_option maxHeartbeats 4000000 in
set_option maxRecDepth 1000000 in
theorem compare_any (a b : ByteArray) (w : World) (ha : a.size ≤ 17592186044416) (hb : b.size ≤ 17592186044416) :
    Calls Tryd.prog 74 #[.string a, .string b] w fun e w' => e = .returned (.int .i64 (NM.ahead a.data.toList b.data.toList)) ∧ Below w.heap.size w w' := by
  have HL := Aside0.mk (show (runes a.data.toList).length ≤ 9223372036854775806 by have := runes_le a.data.toList; rw [← Lib.size_eq] at this; omega)
  obtain ⟨V, hV⟩ : ∃ V, NM.ahead a.data.toList b.data.toList = V := ⟨_, rfl⟩
  rw [hV]
  unfold NM.ahead at hV
  obtain ⟨C, hC⟩ : ∃ C, cmpI (runes a.data.toList) (runes b.data.toList) = C := ⟨_, rfl⟩
  rw [hC] at hV
  have HC := Aside0.mk hC
  clear hC
  have HA := Aside0.mk ha
  have HB := Aside0.mk hb
  clear ha hb
  by_cases c0 : C = 0
  · subst c0
    rw [if_neg (by decide)] at hV
    subst hV
    go_enter Tryd.func74, Tryd.ntmps74
    go_wp2_with (first
    | ((with_reducible refine gate_callee (f := 83) rfl ?_); refine goesL_ (some 7) rfl rfl Tryd.func83 (by kernel_rfl) rfl #[.string a] rfl (by (try simp only [List.map_toArray, List.map_cons, List.map_nil]); first | done | rfl | (simp only [List.length_drop, List.length_take]; rfl)) ?_; (with_reducible refine (runes_any a w HA.out).mono ?_); rintro e w1 ⟨v1, rfl, hr1, hb1⟩; obtain ⟨A1, k1, rfl, hl1, hC1⟩ := Kd.R_reads hr1; have HR1 := Aside0.mk hC1; have HB1 := Aside0.mk hb1; have HK1 := Aside0.mk hl1; clear hr1 hb1 hC1 hl1; refine ⟨_, rfl, ?_⟩)
    | ((with_reducible refine gate_callee (f := 83) rfl ?_); refine goesL_ (some 9) rfl rfl Tryd.func83 (by kernel_rfl) rfl #[.string b] rfl (by (try simp only [List.map_toArray, List.map_cons, List.map_nil]); first | done | rfl | (simp only [List.length_drop, List.length_take]; rfl)) ?_; (with_reducible refine (runes_any b w1 HB.out).mono ?_); rintro e w2 ⟨v2, rfl, hr2, hb2⟩; obtain ⟨A2, k2, rfl, hl2, hC2⟩ := Kd.R_reads hr2; have HR2 := Aside0.mk hC2; have HB2 := Aside0.mk hb2; have HK2 := Aside0.mk hl2; clear hr2 hb2 hC2 hl2; refine ⟨_, rfl, ?_⟩)
    | ((with_reducible refine gate_callee (f := 82) rfl ?_); refine goesL_ (some 10) rfl rfl Tryd.func82 (by kernel_rfl) rfl #[.slice A1 (runes a.data.toList).length k1, .slice A2 (runes b.data.toList).length k2] rfl (by (try simp only [List.map_toArray, List.map_cons, List.map_nil]); first | done | rfl | (simp only [List.length_drop, List.length_take]; rfl)) ?_; (with_reducible refine (slices_Compare_rune_rune.calls _ A1 k1 _ A2 k2 _ 0 w2 (Kd.C_below HR1.out HB2.out) HK1.out HR2.out HK2.out ((NMV.slc_f _ _ HL.out _ (Nat.le_refl _)).trans (congrArg some HC.out))).mono ?_); rintro e w3 ⟨rfl, ⟨nd, rfl⟩⟩; refine ⟨_, rfl, ?_⟩)
    | ((with_reducible refine gate_callee (f := 84) rfl ?_); refine goesL_ (some 16) rfl rfl Tryd.func84 (by kernel_rfl) rfl #[.string a, .string b] rfl (by (try simp only [List.map_toArray, List.map_cons, List.map_nil]); first | done | rfl | (simp only [List.length_drop, List.length_take]; rfl)) ?_; (with_reducible refine (Tryd.strings_Compare a b _).mono ?_); rintro e w4 ⟨rfl, rfl⟩; refine ⟨_, rfl, ?_⟩))
    go_ret
    exact ⟨rfl, by first | exact (HB1.out.trans (HB2.out.mono (below_size HB1.out))) | exact pw_below_drewN (HB1.out.trans (HB2.out.mono (below_size HB1.out))) nd⟩
  · rw [if_pos c0] at hV
    subst hV
    have c1 : (C == 0) = false := beq_eq_false_iff_ne.2 c0
    have c2 : (C != 0) = true := by simp [c0]
    go_enter Tryd.func74, Tryd.ntmps74
    go_wp2_with (first
    | ((with_reducible refine gate_callee (f := 83) rfl ?_); refine goesL_ (some 7) rfl rfl Tryd.func83 (by kernel_rfl) rfl #[.string a] rfl (by (try simp only [List.map_toArray, List.map_cons, List.map_nil]); first | done | rfl | (simp only [List.length_drop, List.length_take]; rfl)) ?_; (with_reducible refine (runes_any a w HA.out).mono ?_); rintro e w1 ⟨v1, rfl, hr1, hb1⟩; obtain ⟨A1, k1, rfl, hl1, hC1⟩ := Kd.R_reads hr1; have HR1 := Aside0.mk hC1; have HB1 := Aside0.mk hb1; have HK1 := Aside0.mk hl1; clear hr1 hb1 hC1 hl1; refine ⟨_, rfl, ?_⟩)
    | ((with_reducible refine gate_callee (f := 83) rfl ?_); refine goesL_ (some 9) rfl rfl Tryd.func83 (by kernel_rfl) rfl #[.string b] rfl (by (try simp only [List.map_toArray, List.map_cons, List.map_nil]); first | done | rfl | (simp only [List.length_drop, List.length_take]; rfl)) ?_; (with_reducible refine (runes_any b w1 HB.out).mono ?_); rintro e w2 ⟨v2, rfl, hr2, hb2⟩; obtain ⟨A2, k2, rfl, hl2, hC2⟩ := Kd.R_reads hr2; have HR2 := Aside0.mk hC2; have HB2 := Aside0.mk hb2; have HK2 := Aside0.mk hl2; clear hr2 hb2 hC2 hl2; refine ⟨_, rfl, ?_⟩)
    | ((with_reducible refine gate_callee (f := 82) rfl ?_); refine goesL_ (some 10) rfl rfl Tryd.func82 (by kernel_rfl) rfl #[.slice A1 (runes a.data.toList).length k1, .slice A2 (runes b.data.toList).length k2] rfl (by (try simp only [List.map_toArray, List.map_cons, List.map_nil]); first | done | rfl | (simp only [List.length_drop, List.length_take]; rfl)) ?_; (with_reducible refine (slices_Compare_rune_rune.calls _ A1 k1 _ A2 k2 _ C w2 (Kd.C_below HR1.out HB2.out) HK1.out HR2.out HK2.out ((NMV.slc_f _ _ HL.out _ (Nat.le_refl _)).trans (congrArg some HC.out))).mono ?_); rintro e w3 ⟨rfl, ⟨nd, rfl⟩⟩; refine ⟨_, rfl, ?_⟩))
    go_ret
    exact ⟨rfl, by first | exact (HB1.out.trans (HB2.out.mono (below_size HB1.out))) | exact pw_below_drewN (HB1.out.trans (HB2.out.mono (below_size HB1.out))) nd⟩
end Go.Proofs.YtcmcmkfoihlniaaDoor.NM
end

section
namespace Go.Proofs.YtcmcmkfoihlniaaDoorX
open Go.RowKit Go.Proofs.YtcmcmkfoihlniaaDoorW.PrintWords
section
variable {P : Program} {ops : Array Oper} {rest : List Oper} {o : Oper} {a : Act} {w : World} {Q : Exit → Act → World → Prop}
theorem grown_setRow (w : World) (g : Nat) (cs : Array Value) : w.grownBy (w.setRow g cs) (some g) :=
  ⟨by simp, by simp, by simp, by simp, fun i _ hne => setRow_other w g i cs (fun e => hne (by rw [e]))⟩
theorem ev_store_row (hgd : o.guard = none) (ty : TypeId) (x y : Operand) (ho : o.op = .store ty x y)
    (g : Nat) (cells : Array Value) (hx : a.eval x = .pointer (some ⟨g, 0, none⟩)) (hy : a.eval y = .agg cells)
    (t : TypeId) (old : Array Value) (hg : w.heap[g]? = some (.cells old t (0, 0))) (hi : (P.info? ty).map (·.size) = some cells.size)
    (hold : old.size = cells.size) (h1 : cells.all (·.oneCell') = true)
    (h : ∀ w1, w1.heap[g]? = some (.cells cells t (0, 0)) → w.grownBy w1 (some g) → wpList P ops Q rest (a.put o.dst undef) w1) : wpList P ops Q (o :: rest) a w :=
  wpList_store_row hgd ty x y ho g cells hx hy t old hg hi hold h1
    (h _ (setRow_heap w g old cells t (0, 0) hg) (grown_setRow w g cells))
theorem ev_store (hgd : o.guard = none) (ty : TypeId) (x y : Operand) (ho : o.op = .store ty x y)
    (g off : Nat) (L news : List Value) (v : Value) (hx : a.eval x = .pointer (some ⟨g, off, none⟩)) (hy : a.eval y = v) (hv : v.cells.toList = news)
    (t : TypeId) (hg : w.heap[g]? = some (.cells L.toArray t (0, 0))) (hi : (P.info? ty).map (·.size) = some news.length)
    (hfit : off + news.length ≤ L.length) (h1 : ∀ u ∈ news, u.oneCell' = true)
    (h : ∀ w1, w1.heap[g]? = some (.cells (L.take off ++ news ++ L.drop (off + news.length)).toArray t (0, 0)) → w.grownBy w1 (some g) → wpList P ops Q rest (a.put o.dst undef) w1) : wpList P ops Q (o :: rest) a w := by
  have hst := run_storeCells_at (P := P) g off t news 0 L.toArray w hg (by simpa using hfit) h1
  simp only [Nat.add_zero] at hst
  have hrun : (storeVar ty ⟨g, off, none⟩ v).run P w = .ok () (w.setRow g (L.take off ++ news ++ L.drop (off + news.length)).toArray) := by
    cases hq : P.info? ty with
    | none => simp [hq] at hi
    | some i =>
      have hs : v.cells.size = i.size := by
        simp [hq] at hi
        rw [← Array.length_toList, hv]; omega
      simp [storeVar, sizeOf, typeInfo, hq, hs, hv, hst]
  refine wpList_plain hgd fun K hK => ?_
  unfold Oper.wp execOp
  simp only [ho, hx, hy, Instr.storeAt, Instr.sureAddr, Sem.run_bind, Sem.run_pure, Result.andThen_ok, hrun]
  exact hK _ _ (h _ (setRow_heap w g L.toArray _ t (0, 0) hg) (grown_setRow w g _))
theorem ev_copy (hgd : o.guard = none) (d s : Operand) (dT sT : TypeId)
    (ho : o.op = .call { callee := .builtin .copy, args := #[d, s], argTypes := #[dT, sT] }) (elem : TypeId) (hu : P.underlying dT = some (.slice elem)) (hsz : (P.info? elem).map (·.size) = some 1)
    (dp sp : Option Addr) (dLen dCap sLen sCap : Nat) (hd : a.eval d = .slice dp dLen dCap) (hs : a.eval s = .slice sp sLen sCap)
    (g off : Nat) (cur : List Value) (t : TypeId) (hg : w.heap[g]? = some (.cells cur.toArray t (0, 0))) (cs : List Value) (hn : cs.length = Nat.min sLen dLen)
    (hpos : 0 < cs.length → dp = some ⟨g, off, none⟩ ∧ ∃ ad, sp = some ad ∧ ∀ j v, cs[j]? = some v → w.cell? (ad.add j) = some v)
    (hfit : off + cs.length ≤ cur.length) (h1 : ∀ v ∈ cs, v.oneCell' = true)
    (h : ∀ w', w'.heap[g]? = some (.cells (splice cur off cs).toArray t (0, 0)) → w.grownBy w' (some g) → wpList P ops Q rest (a.put o.dst (goInt cs.length)) w') :
    wpList P ops Q (o :: rest) a w := by
  by_cases h0 : cs.length = 0
  · obtain rfl : cs = [] := List.eq_nil_of_length_eq_zero h0
    refine wpList_copy_nothing hgd d s dT sT ho elem hu hsz dp sp dLen dCap sLen sCap hd hs (by simpa using hn.symm) ?_
    exact h w (by simpa [splice] using hg) (grown_of_below (Below.refl _ _) _)
  · obtain ⟨rfl, ad, rfl, hsrc⟩ := hpos (by omega)
    refine wpList_copy_own hgd d s dT sT ho elem hu hsz g off dLen dCap ad sLen sCap hd hs cur.toArray t hg cs hn hsrc (by simpa using hfit) h1 ?_
    exact h _ (by simpa [splice] using setRow_heap w g _ _ t _ hg) (grown_setRow w g _)
theorem ev_make (hgd : o.guard = none) (l c : Operand) (t e : TypeId) (kk : IntKind) (bytes : Nat) (ho : o.op = .makeSlice t l c) (ht : P.underlying t = some (.slice e))
    (hinfo : (P.info? e).map (fun i => (i.zero, i.size, i.bytes)) = some (some (.int kk 0), 1, bytes)) (n k : Nat) (kl kc : IntKind) (nl nc : Int) (hl : a.eval l = .int kl nl) (hc : a.eval c = .int kc nc) (hnl : nl = n) (hnc : nc = k)
    (hnk : n ≤ k) (hb : bytes * k ≤ 281474976710656) (h63 : k ≤ 9223372036854775807)
    (h : ∀ g, g = w.heap.size → ∀ w1, w1.heap[g]? = some (.cells (nums kk (List.replicate k 0)).toArray e (0, 0)) → Below w.heap.size w w1 → wpList P ops Q rest (a.put o.dst (.slice (some ⟨g, 0, none⟩) n k)) w1) : wpList P ops Q (o :: rest) a w := by
  obtain ⟨i, hi, hzz⟩ := Option.map_eq_some_iff.1 hinfo
  simp only [Prod.mk.injEq] at hzz
  obtain ⟨hz, hs, hby⟩ := hzz
  subst hnl hnc
  have hbi : (i.bytes : Int) * (k : Int) ≤ 281474976710656 := by rw [hby, ← Int.natCast_mul]; omega
  have hr := run_make (P := P) w t e i (.int kk 0) ht hi hz kl kc n k (by omega) (by omega) hbi (by omega)
  rw [hs, Int.toNat_natCast, Int.toNat_natCast, Nat.mul_one] at hr
  have hcells : madeCells (Value.int kk 0).cells k = (nums kk (List.replicate k 0)).toArray := by
    have hl : (madeCells #[Value.int kk 0] k).toList = nums kk (List.replicate k 0) := by
      apply List.ext_getElem
      · simp [nums, madeCells]
      · intro i h1 h2
        simp [nums, madeCells, Nat.mod_one]
    rw [show (Value.int kk 0).cells = #[Value.int kk 0] from rfl, ← hl]
  rw [hcells] at hr
  refine wpList_plain hgd fun K hK => ?_
  unfold Oper.wp execOp
  simp only [ho, hl, hc, Sem.run_bind, Sem.run_pure, Result.andThen_ok, hr]
  exact hK _ _ (h _ rfl _ (heap_alloc_new w _) ((Below.refl _ _).alloc (Nat.le_refl _) _))
end
theorem one_nums (k : IntKind) (l : List Int) : ∀ u ∈ nums k l, u.oneCell' = true := by
  intro u hu
  simp only [nums, List.mem_map] at hu
  obtain ⟨x, _, rfl⟩ := hu
  rfl
end Go.Proofs.YtcmcmkfoihlniaaDoorX
end

section
namespace Go.Proofs.YtcmcmkfoihlniaaDoor.EN
open Go Go.RowKit Go.Proofs.YtcmcmkfoihlniaaDoorX Go.Proofs.YtcmcmkfoihlniaaDoor.NM Go.Proofs.YtcmcmkfoihlniaaDoorW.PrintWords Go.Proofs.YtcmcmkfoihlniaaDoorW.PrintLast Go.Proofs.YtcmcmkfoihlniaaDoorW.PrintMore Go.Proofs.YtcmcmkfoihlniaaDoor.PModelUndoes
set_option linter.unusedVariables false
def cellsE (a : Int) (s : ByteArray) : Array Value := #[.int .i64 a, .string s]
theorem sizeEntry (a : Int) (s : ByteArray) : (Tryd.prog.info? 90).map (·.size) = some (cellsE a s).size := by kernel_rfl
theorem cellsE_all (a : Int) (s : ByteArray) : (cellsE a s).all (·.oneCell') = true := by simp [cellsE, Value.oneCell']
def okIno (a : Int) : Bool := decide (1 ≤ a) && decide (a ≤ 64)
def inoAt (l : List S90) (i : Nat) : Int := (rd_T90 l i).f0
def nameAt (l : List S90) (i : Nat) : ByteArray := (rd_T90 l i).f1
def okAt (l : List S90) (i : Nat) : Bool := okIno (inoAt l i) && valid (nameAt l i).data.toList && (decide (i = 0) || decide (NM.ahead (nameAt l (i - 1)).data.toList (nameAt l i).data.toList < 0))
theorem okAt_eq {l : List S90} {i : Nat} {ino : Int} {nm : ByteArray} (h1 : inoAt l i = ino) (h2 : nameAt l i = nm) : okAt l i = (okIno ino && valid nm.data.toList && (decide (i = 0) || decide (NM.ahead (nameAt l (i - 1)).data.toList nm.data.toList < 0))) := by subst h1; subst h2; rfl
def MayP (l : List S90) : Prop := l.length ≤ 64 ∧ ∀ i, i < l.length → okAt l i = true
def mayE (l : List S90) : Bool := decide (l.length ≤ 64) && (List.range l.length).all fun i => okAt l i
theorem mayE_iff (l : List S90) : mayE l = true ↔ MayP l := by simp [mayE, MayP, List.all_eq_true]
theorem mayE_false {l : List S90} {i : Nat} (hi : i < l.length) (h : okAt l i = false) : mayE l = false := by
  rw [Bool.eq_false_iff]
  intro h1
  have := (mayE_iff l).1 h1 |>.2 i hi
  rw [h] at this
  cases this
theorem may_call (x : Int) (w : World) : Calls Tryd.prog 75 #[.int .i64 x] w fun e w' => e = .returned (.bool (okIno x)) ∧ Below w.heap.size w w' := by
  refine (entry_may.calls x (okIno x) w ?_).mono fun e w' h => ⟨h.1, h.2.below⟩
  unfold entry_may.f okIno
  by_cases h : 1 ≤ x
  · rw [if_pos h, decide_eq_true h, Bool.true_and]
  · rw [if_neg h, decide_eq_false h, Bool.false_and]
structure Row (w : World) (A : Option Addr) (l : List S90) : Prop where
  c : Kd.C k90 w A l.length l
  z : ∀ x ∈ l, x.f1.size ≤ 140737488351232
theorem Row.below {w w1 : World} {A : Option Addr} {l : List S90} (h : Row w A l) (hb : Below w.heap.size w w1) : Row w1 A l := ⟨Kd.C_below h.c hb, h.z⟩
theorem Row.at_ {w : World} {A : Option Addr} {l : List S90} (h : Row w A l) {j : Nat} (hj : j < l.length) : ∃ ad, A = some ad ∧ w.cell? (ad.add (j * 2)) = some (.int .i64 (inoAt l j)) ∧ w.cell? ⟨(ad.add (j * 2)).block, (ad.add (j * 2)).off + 1, none⟩ = some (.string (nameAt l j)) := by
  obtain ⟨ad, e, h0, h1⟩ := at_T90 h.c (j : Int) (by omega) (by omega)
  exact ⟨ad, e, by unfold inoAt; simpa using h0, by unfold nameAt; simpa using h1⟩
theorem Row.size {w : World} {A : Option Addr} {l : List S90} (h : Row w A l) (j : Nat) : (nameAt l j).size ≤ 140737488351232 := by
  unfold nameAt rd_T90
  by_cases hj : (j : Int).toNat < l.length
  · rw [List.getD_eq_getElem?_getD, List.getElem?_eq_getElem hj]
    exact h.z _ (List.getElem_mem _)
  · rw [List.getD_eq_getElem?_getD, List.getElem?_eq_none (by omega)]
    exact Nat.zero_le _
theorem valid_size {s : ByteArray} (h : valid s.data.toList = true) : s.size ≤ 24 := by
  unfold valid at h
  rw [Lib.size_eq]
  simp only [Bool.and_eq_true, decide_eq_true_eq] at h
  omega
theorem tabs_of {w w1 : World} (h : Below w.heap.size w w1) (hT : Lib.Utf8Tabs 2 3 w) : Lib.Utf8Tabs 2 3 w1 := Utf8Tabs_below hT h
set_option maxHeartbeats 4000000 in
set_option maxRecDepth 100000 in
theorem may_any (w : World) (A : Option Addr) (c : Nat) (l : List S90) (hr : Row w A l) (hT : Lib.Utf8Tabs 2 3 w) :
    Calls Tryd.prog 69 #[.slice A l.length c] w fun e w' => e = .returned (.bool (mayE l)) ∧ Below w.heap.size w w' := by
  have hu42 := Aside0.mk Tryd.underlying90
  have HR := Aside0.mk hr
  have HT := Aside0.mk hT
  clear hr hT
  obtain ⟨M, hM⟩ : ∃ M, mayE l = M := ⟨_, rfl⟩
  rw [hM]
  by_cases hl : l.length ≤ 64
  rotate_left
  · obtain rfl : M = false := by rw [← hM]; unfold mayE; rw [decide_eq_false hl, Bool.false_and]
    have hl2 : (64 : Int) < (l.length : Int) := by omega
    clear hM
    go_enter Tryd.func69, Tryd.ntmps69
    go_wp2
    go_ret
    exact ⟨rfl, Below.refl _ _⟩
  have hl2 : (l.length : Int) ≤ 64 := by omega
  have HMM := Aside0.mk hM
  clear hM
  go_enter Tryd.func69, Tryd.ntmps69
  go_wp2
  go_loopw [10] (fun i wr => ∃ j : Nat, j ≤ l.length ∧ i = .int .i64 j ∧ Aside0 (Below w.heap.size w wr) ∧ Aside0 (∀ k, k < j → okAt l k = true)) (fun i _ => l.length - (intOf i).toNat)
  case atStart => exact ⟨0, Nat.zero_le _, rfl, ⟨Below.refl _ _⟩, ⟨fun k hk => absurd hk (Nat.not_lt_zero _)⟩⟩
  case round =>
    obtain ⟨j, hj, rfl, HW, HK⟩ := hrel
    by_cases hlt : j < l.length
    · have hlt' : (j : Int) < (l.length : Int) := by omega
      have hj0 : (0 : Int) ≤ (j : Int) := Int.natCast_nonneg _
      have HJ := Aside0.mk hlt
      obtain ⟨ad, rfl, c0, c1⟩ := (HR.out.below HW.out).at_ hlt
      have HZ := Aside0.mk (HR.out.size j)
      obtain ⟨ino, hino⟩ : ∃ x, inoAt l j = x := ⟨_, rfl⟩
      obtain ⟨nm, hnm⟩ : ∃ x, nameAt l j = x := ⟨_, rfl⟩
      rw [hino] at c0
      rw [hnm] at c1 HZ
      have hok := okAt_eq hino hnm
      obtain ⟨m1, HM⟩ : ∃ b, Aside0 (okIno ino = b) := ⟨_, ⟨rfl⟩⟩
      obtain ⟨v1, HV⟩ : ∃ b, Aside0 (valid nm.data.toList = b) := ⟨_, ⟨rfl⟩⟩
      rw [HM.out, HV.out] at hok
      cases m1 with
      | false =>
        obtain rfl : M = false := by rw [← HMM.out]; exact mayE_false HJ.out (by rw [hok, Bool.false_and, Bool.false_and])
        clear hok hino hnm hlt hj
        go_wp2_with (first
    | ((with_reducible refine gate_dst (N := 14) rfl ?_); refine wpList_load_pair rfl 90 (.tmp 13) (by kernel_rfl) _ (by go_simp; rfl) _ _ _ c0 c1 hu42.out rfl (by kernel_rfl) ?_)
    | ((with_reducible refine gate_dst (N := 4) rfl ?_); refine box_event ?hg (N := 4) ?hd (cs := #[.int .i64 0, .string ⟨#[]⟩]) (t := 90) ?hr ?_; (case hd => rfl); (case hg => rfl); (case hr => first | (go_simp; done) | (go_simp; rfl) | kernel_rfl); intro gg hg w1 hbox hb; have Gg := Aside0.mk (show wr.heap.size ≤ gg from Nat.le_of_eq hg.symm); have HB1 := Aside0.mk (hb); have Bg1 := Aside0.mk (hbox); clear hb hbox hg)
    | ((with_reducible refine gate_store (t := 90) (p := 4) (v := .tmp 14) rfl ?_); refine ev_store_row (by rfl) 90 (.tmp 4) (.tmp 14) (by rfl) gg (cellsE ino nm) (by kernel_rfl) (by kernel_rfl) 90 _ Bg1.out (sizeEntry _ _) (by rfl) (cellsE_all _ _) ?_; intro w2 hbox hg; have HB2 := Aside0.mk (pw_below_grown HB1.out _ HB1.out.size hg (fun q e => by cases e; exact Gg.out)); have Bg2 := Aside0.mk (hbox); have d0_2 : w2.cell? ⟨gg, 0, none⟩ = some (.int .i64 ino) := blk_cell Bg2.out 0; have d1_2 : w2.cell? ⟨gg, 1, none⟩ = some (.string nm) := blk_cell Bg2.out 1; clear hbox hg))
        have HB2' := HB2.out
        refine wp_region_held_drew (S := fun W => Below w2.heap.size w2 W) (by kernel_rfl) (below_drew (Below.refl w2.heap.size w2)) (fun hHeld => ?_)
        refine wpAnyH_take (i := 0) (oi := ⟨some 15, _, _, _, _, _⟩) (v := (.pointer (some ⟨gg, 0, none⟩))) rfl (by kernel_rfl) (by kernel_rfl) (by kernel_rfl) (fun _ _ _ h => h) (Or.inl ⟨by rfl, fun W hS => by go_simp⟩) hHeld ?_
        (try simp only [Act.put, List.setIfInBounds_toArray, List.set_cons_zero, List.set_cons_succ])
        refine wpAnyH_take (i := 1) (oi := ⟨some 16, _, _, _, _, _⟩) (v := (.int .i64 ino)) rfl (by kernel_rfl) (by kernel_rfl) (by kernel_rfl) (fun _ _ _ h => h) (Or.inl ⟨by rfl, fun W hS => by have d0 : W.cell? ⟨gg, 0, none⟩ = some (.int .i64 ino) := blk_cell (blk_below Bg2.out hS) 0; go_simp⟩) hHeld ?_
        (try simp only [Act.put, List.setIfInBounds_toArray, List.set_cons_zero, List.set_cons_succ])
        refine wpAnyH_ready (rs := [2]) (by kernel_rfl) (by simp) ?_
        refine AllReadyH.cons rfl (fun K hK => ?_) AllReadyH.nil
        go_simp
        refine (may_call ino _).mono ?_
        rw [HM.out]
        rintro e w3 ⟨rfl, hb⟩
        dsimp only
        refine hK.out _ _ (below_step hHeld hb) (fun hH => ?_)
        clear hK K hHeld hb
        have hHeld := hH
        clear hH
        (try simp only [Act.put, List.setIfInBounds_toArray, List.set_cons_zero, List.set_cons_succ])
        refine wpAnyH_take (i := 3) (oi := ⟨some 18, _, _, _, _, _⟩) (v := (.bool true)) rfl (by kernel_rfl) (by kernel_rfl) (by kernel_rfl) (fun _ _ _ h => h) (Or.inl ⟨by rfl, fun W hS => by go_simp⟩) hHeld ?_
        (try simp only [Act.put, List.setIfInBounds_toArray, List.set_cons_zero, List.set_cons_succ])
        refine wpAnyH_take (i := 4) (oi := ⟨some 19, _, _, _, _, _⟩) (v := (.bool true)) rfl (by kernel_rfl) (by kernel_rfl) (by kernel_rfl) (fun _ _ _ h => h) (Or.inl ⟨by rfl, fun W hS => by go_simp⟩) hHeld ?_
        (try simp only [Act.put, List.setIfInBounds_toArray, List.set_cons_zero, List.set_cons_succ])
        refine wpAnyH_take (i := 5) (oi := ⟨some 20, _, _, _, _, _⟩) (v := undef) rfl (by kernel_rfl) (by kernel_rfl) (by kernel_rfl) (fun _ _ _ h => h) (Or.inr ⟨by rfl, rfl⟩) hHeld ?_
        (try simp only [Act.put, List.setIfInBounds_toArray, List.set_cons_zero, List.set_cons_succ])
        refine wpAnyH_take (i := 6) (oi := ⟨some 21, _, _, _, _, _⟩) (v := undef) rfl (by kernel_rfl) (by kernel_rfl) (by kernel_rfl) (fun _ _ _ h => h) (Or.inr ⟨by rfl, rfl⟩) hHeld ?_
        (try simp only [Act.put, List.setIfInBounds_toArray, List.set_cons_zero, List.set_cons_succ])
        refine wpAnyH_take (i := 7) (oi := ⟨some 22, _, _, _, _, _⟩) (v := undef) rfl (by kernel_rfl) (by kernel_rfl) (by kernel_rfl) (fun _ _ _ h => h) (Or.inr ⟨by rfl, rfl⟩) hHeld ?_
        (try simp only [Act.put, List.setIfInBounds_toArray, List.set_cons_zero, List.set_cons_succ])
        refine wpAnyH_take (i := 8) (oi := ⟨some 23, _, _, _, _, _⟩) (v := undef) rfl (by kernel_rfl) (by kernel_rfl) (by kernel_rfl) (fun _ _ _ h => h) (Or.inr ⟨by rfl, rfl⟩) hHeld ?_
        (try simp only [Act.put, List.setIfInBounds_toArray, List.set_cons_zero, List.set_cons_succ])
        refine wpAnyH_take (i := 9) (oi := ⟨some 24, _, _, _, _, _⟩) (v := (.bool true)) rfl (by kernel_rfl) (by kernel_rfl) (by kernel_rfl) (fun _ _ _ h => h) (Or.inl ⟨by rfl, fun W hS => by go_simp⟩) hHeld ?_
        (try simp only [Act.put, List.setIfInBounds_toArray, List.set_cons_zero, List.set_cons_succ])
        refine wpAnyH_take (i := 10) (oi := ⟨some 25, _, _, _, _, _⟩) (v := (.bool true)) rfl (by kernel_rfl) (by kernel_rfl) (by kernel_rfl) (fun _ _ _ h => h) (Or.inl ⟨by rfl, fun W hS => by go_simp⟩) hHeld ?_
        (try simp only [Act.put, List.setIfInBounds_toArray, List.set_cons_zero, List.set_cons_succ])
        refine wpAnyH_take (i := 11) (oi := ⟨some 26, _, _, _, _, _⟩) (v := undef) rfl (by kernel_rfl) (by kernel_rfl) (by kernel_rfl) (fun _ _ _ h => h) (Or.inr ⟨by rfl, rfl⟩) hHeld ?_
        (try simp only [Act.put, List.setIfInBounds_toArray, List.set_cons_zero, List.set_cons_succ])
        refine wpAnyH_take (i := 12) (oi := ⟨some 27, _, _, _, _, _⟩) (v := undef) rfl (by kernel_rfl) (by kernel_rfl) (by kernel_rfl) (fun _ _ _ h => h) (Or.inr ⟨by rfl, rfl⟩) hHeld ?_
        (try simp only [Act.put, List.setIfInBounds_toArray, List.set_cons_zero, List.set_cons_succ])
        refine wpAnyH_take (i := 13) (oi := ⟨some 28, _, _, _, _, _⟩) (v := undef) rfl (by kernel_rfl) (by kernel_rfl) (by kernel_rfl) (fun _ _ _ h => h) (Or.inr ⟨by rfl, rfl⟩) hHeld ?_
        (try simp only [Act.put, List.setIfInBounds_toArray, List.set_cons_zero, List.set_cons_succ])
        refine wpAnyH_take (i := 14) (oi := ⟨some 29, _, _, _, _, _⟩) (v := undef) rfl (by kernel_rfl) (by kernel_rfl) (by kernel_rfl) (fun _ _ _ h => h) (Or.inr ⟨by rfl, rfl⟩) hHeld ?_
        (try simp only [Act.put, List.setIfInBounds_toArray, List.set_cons_zero, List.set_cons_succ])
        refine wpAnyH_take (i := 15) (oi := ⟨some 30, _, _, _, _, _⟩) (v := undef) rfl (by kernel_rfl) (by kernel_rfl) (by kernel_rfl) (fun _ _ _ h => h) (Or.inr ⟨by rfl, rfl⟩) hHeld ?_
        (try simp only [Act.put, List.setIfInBounds_toArray, List.set_cons_zero, List.set_cons_succ])
        refine wpAnyH_take (i := 16) (oi := ⟨some 31, _, _, _, _, _⟩) (v := undef) rfl (by kernel_rfl) (by kernel_rfl) (by kernel_rfl) (fun _ _ _ h => h) (Or.inr ⟨by rfl, rfl⟩) hHeld ?_
        (try simp only [Act.put, List.setIfInBounds_toArray, List.set_cons_zero, List.set_cons_succ])
        refine wpAnyH_take (i := 17) (oi := ⟨some 32, _, _, _, _, _⟩) (v := undef) rfl (by kernel_rfl) (by kernel_rfl) (by kernel_rfl) (fun _ _ _ h => h) (Or.inr ⟨by rfl, rfl⟩) hHeld ?_
        (try simp only [Act.put, List.setIfInBounds_toArray, List.set_cons_zero, List.set_cons_succ])
        refine wpAnyH_take (i := 18) (oi := ⟨some 33, _, _, _, _, _⟩) (v := undef) rfl (by kernel_rfl) (by kernel_rfl) (by kernel_rfl) (fun _ _ _ h => h) (Or.inr ⟨by rfl, rfl⟩) hHeld ?_
        (try simp only [Act.put, List.setIfInBounds_toArray, List.set_cons_zero, List.set_cons_succ])
        refine wpAnyH_take (i := 19) (oi := ⟨some 34, _, _, _, _, _⟩) (v := undef) rfl (by kernel_rfl) (by kernel_rfl) (by kernel_rfl) (fun _ _ _ h => h) (Or.inr ⟨by rfl, rfl⟩) hHeld ?_
        (try simp only [Act.put, List.setIfInBounds_toArray, List.set_cons_zero, List.set_cons_succ])
        refine wpAnyH_take (i := 20) (oi := ⟨some 35, _, _, _, _, _⟩) (v := undef) rfl (by kernel_rfl) (by kernel_rfl) (by kernel_rfl) (fun _ _ _ h => h) (Or.inr ⟨by rfl, rfl⟩) hHeld ?_
        (try simp only [Act.put, List.setIfInBounds_toArray, List.set_cons_zero, List.set_cons_succ])
        refine wpAnyH_take (i := 21) (oi := ⟨some 36, _, _, _, _, _⟩) (v := undef) rfl (by kernel_rfl) (by kernel_rfl) (by kernel_rfl) (fun _ _ _ h => h) (Or.inr ⟨by rfl, rfl⟩) hHeld ?_
        (try simp only [Act.put, List.setIfInBounds_toArray, List.set_cons_zero, List.set_cons_succ])
        refine wpAnyH_take (i := 22) (oi := ⟨some 37, _, _, _, _, _⟩) (v := undef) rfl (by kernel_rfl) (by kernel_rfl) (by kernel_rfl) (fun _ _ _ h => h) (Or.inr ⟨by rfl, rfl⟩) hHeld ?_
        (try simp only [Act.put, List.setIfInBounds_toArray, List.set_cons_zero, List.set_cons_succ])
        refine wpAnyH_take (i := 23) (oi := ⟨some 38, _, _, _, _, _⟩) (v := undef) rfl (by kernel_rfl) (by kernel_rfl) (by kernel_rfl) (fun _ _ _ h => h) (Or.inr ⟨by rfl, rfl⟩) hHeld ?_
        (try simp only [Act.put, List.setIfInBounds_toArray, List.set_cons_zero, List.set_cons_succ])
        refine wpAnyH_take (i := 24) (oi := ⟨some 39, _, _, _, _, _⟩) (v := undef) rfl (by kernel_rfl) (by kernel_rfl) (by kernel_rfl) (fun _ _ _ h => h) (Or.inr ⟨by rfl, rfl⟩) hHeld ?_
        (try simp only [Act.put, List.setIfInBounds_toArray, List.set_cons_zero, List.set_cons_succ])
        refine wpAnyH_take (i := 25) (oi := ⟨some 40, _, _, _, _, _⟩) (v := (.bool true)) rfl (by kernel_rfl) (by kernel_rfl) (by kernel_rfl) (fun _ _ _ h => h) (Or.inl ⟨by rfl, fun W hS => by go_simp⟩) hHeld ?_
        (try simp only [Act.put, List.setIfInBounds_toArray, List.set_cons_zero, List.set_cons_succ])
        refine wpAnyH_done (by kernel_rfl) ?_ _
        have HF := Aside0.mk (HW.out.trans ((HB2.out.trans (hHeld.mono (below_size HB2.out))).mono (below_size HW.out)))
        clear hHeld HB2'
        (try simp only [Exit.then])
        go_wp2
        go_ret
        exact ⟨rfl, HF.out⟩
      | true =>
      cases v1 with
      | false =>
        obtain rfl : M = false := by rw [← HMM.out]; exact mayE_false HJ.out (by rw [hok, Bool.and_false, Bool.false_and])
        clear hok hino hnm hlt hj
        go_wp2_with (first
    | ((with_reducible refine gate_dst (N := 14) rfl ?_); refine wpList_load_pair rfl 90 (.tmp 13) (by kernel_rfl) _ (by go_simp; rfl) _ _ _ c0 c1 hu42.out rfl (by kernel_rfl) ?_)
    | ((with_reducible refine gate_dst (N := 4) rfl ?_); refine box_event ?hg (N := 4) ?hd (cs := #[.int .i64 0, .string ⟨#[]⟩]) (t := 90) ?hr ?_; (case hd => rfl); (case hg => rfl); (case hr => first | (go_simp; done) | (go_simp; rfl) | kernel_rfl); intro gg hg w1 hbox hb; have Gg := Aside0.mk (show wr.heap.size ≤ gg from Nat.le_of_eq hg.symm); have HB1 := Aside0.mk (hb); have Bg1 := Aside0.mk (hbox); clear hb hbox hg)
    | ((with_reducible refine gate_store (t := 90) (p := 4) (v := .tmp 14) rfl ?_); refine ev_store_row (by rfl) 90 (.tmp 4) (.tmp 14) (by rfl) gg (cellsE ino nm) (by kernel_rfl) (by kernel_rfl) 90 _ Bg1.out (sizeEntry _ _) (by rfl) (cellsE_all _ _) ?_; intro w2 hbox hg; have HB2 := Aside0.mk (pw_below_grown HB1.out _ HB1.out.size hg (fun q e => by cases e; exact Gg.out)); have Bg2 := Aside0.mk (hbox); have d0_2 : w2.cell? ⟨gg, 0, none⟩ = some (.int .i64 ino) := blk_cell Bg2.out 0; have d1_2 : w2.cell? ⟨gg, 1, none⟩ = some (.string nm) := blk_cell Bg2.out 1; clear hbox hg))
        have HB2' := HB2.out
        refine wp_region_held_drew (S := fun W => Below w2.heap.size w2 W) (by kernel_rfl) (below_drew (Below.refl w2.heap.size w2)) (fun hHeld => ?_)
        refine wpAnyH_take (i := 0) (oi := ⟨some 15, _, _, _, _, _⟩) (v := (.pointer (some ⟨gg, 0, none⟩))) rfl (by kernel_rfl) (by kernel_rfl) (by kernel_rfl) (fun _ _ _ h => h) (Or.inl ⟨by rfl, fun W hS => by go_simp⟩) hHeld ?_
        (try simp only [Act.put, List.setIfInBounds_toArray, List.set_cons_zero, List.set_cons_succ])
        refine wpAnyH_take (i := 1) (oi := ⟨some 16, _, _, _, _, _⟩) (v := (.int .i64 ino)) rfl (by kernel_rfl) (by kernel_rfl) (by kernel_rfl) (fun _ _ _ h => h) (Or.inl ⟨by rfl, fun W hS => by have d0 : W.cell? ⟨gg, 0, none⟩ = some (.int .i64 ino) := blk_cell (blk_below Bg2.out hS) 0; go_simp⟩) hHeld ?_
        (try simp only [Act.put, List.setIfInBounds_toArray, List.set_cons_zero, List.set_cons_succ])
        refine wpAnyH_ready (rs := [2]) (by kernel_rfl) (by simp) ?_
        refine AllReadyH.cons rfl (fun K hK => ?_) AllReadyH.nil
        go_simp
        refine (may_call ino _).mono ?_
        rw [HM.out]
        rintro e w3 ⟨rfl, hb⟩
        dsimp only
        refine hK.out _ _ (below_step hHeld hb) (fun hH => ?_)
        clear hK K hHeld hb
        have hHeld := hH
        clear hH
        (try simp only [Act.put, List.setIfInBounds_toArray, List.set_cons_zero, List.set_cons_succ])
        refine wpAnyH_take (i := 3) (oi := ⟨some 18, _, _, _, _, _⟩) (v := (.bool false)) rfl (by kernel_rfl) (by kernel_rfl) (by kernel_rfl) (fun _ _ _ h => h) (Or.inl ⟨by rfl, fun W hS => by go_simp⟩) hHeld ?_
        (try simp only [Act.put, List.setIfInBounds_toArray, List.set_cons_zero, List.set_cons_succ])
        refine wpAnyH_take (i := 4) (oi := ⟨some 19, _, _, _, _, _⟩) (v := (.bool false)) rfl (by kernel_rfl) (by kernel_rfl) (by kernel_rfl) (fun _ _ _ h => h) (Or.inl ⟨by rfl, fun W hS => by go_simp⟩) hHeld ?_
        (try simp only [Act.put, List.setIfInBounds_toArray, List.set_cons_zero, List.set_cons_succ])
        refine wpAnyH_take (i := 5) (oi := ⟨some 20, _, _, _, _, _⟩) (v := (.pointer (some ⟨gg, 1, none⟩))) rfl (by kernel_rfl) (by kernel_rfl) (by kernel_rfl) (fun _ _ _ h => h) (Or.inl ⟨by rfl, fun W hS => by go_simp⟩) hHeld ?_
        (try simp only [Act.put, List.setIfInBounds_toArray, List.set_cons_zero, List.set_cons_succ])
        refine wpAnyH_take (i := 6) (oi := ⟨some 21, _, _, _, _, _⟩) (v := (.string nm)) rfl (by kernel_rfl) (by kernel_rfl) (by kernel_rfl) (fun _ _ _ h => h) (Or.inl ⟨by rfl, fun W hS => by have d1 : W.cell? ⟨gg, 1, none⟩ = some (.string nm) := blk_cell (blk_below Bg2.out hS) 1; go_simp⟩) hHeld ?_
        (try simp only [Act.put, List.setIfInBounds_toArray, List.set_cons_zero, List.set_cons_succ])
        refine wpAnyH_ready (rs := [7]) (by kernel_rfl) (by simp) ?_
        refine AllReadyH.cons rfl (fun K hK => ?_) AllReadyH.nil
        rw [if_pos (by rfl)]
        go_simp
        refine (valid_any nm _ (by have := HZ.out; omega) (tabs_of (HW.out.trans ((HB2.out.trans (hHeld.mono (below_size HB2.out))).mono (below_size HW.out))) HT.out)).mono ?_
        rw [HV.out]
        rintro e w4 ⟨rfl, hb⟩
        dsimp only
        refine hK.out _ _ (below_step hHeld hb) (fun hH => ?_)
        clear hK K hHeld hb
        have hHeld := hH
        clear hH
        (try simp only [Act.put, List.setIfInBounds_toArray, List.set_cons_zero, List.set_cons_succ])
        refine wpAnyH_take (i := 8) (oi := ⟨some 23, _, _, _, _, _⟩) (v := (.bool true)) rfl (by kernel_rfl) (by kernel_rfl) (by kernel_rfl) (fun _ _ _ h => h) (Or.inl ⟨by rfl, fun W hS => by go_simp⟩) hHeld ?_
        (try simp only [Act.put, List.setIfInBounds_toArray, List.set_cons_zero, List.set_cons_succ])
        refine wpAnyH_take (i := 9) (oi := ⟨some 24, _, _, _, _, _⟩) (v := (.bool true)) rfl (by kernel_rfl) (by kernel_rfl) (by kernel_rfl) (fun _ _ _ h => h) (Or.inl ⟨by rfl, fun W hS => by go_simp⟩) hHeld ?_
        (try simp only [Act.put, List.setIfInBounds_toArray, List.set_cons_zero, List.set_cons_succ])
        refine wpAnyH_take (i := 10) (oi := ⟨some 25, _, _, _, _, _⟩) (v := (.bool true)) rfl (by kernel_rfl) (by kernel_rfl) (by kernel_rfl) (fun _ _ _ h => h) (Or.inl ⟨by rfl, fun W hS => by go_simp⟩) hHeld ?_
        (try simp only [Act.put, List.setIfInBounds_toArray, List.set_cons_zero, List.set_cons_succ])
        refine wpAnyH_take (i := 11) (oi := ⟨some 26, _, _, _, _, _⟩) (v := undef) rfl (by kernel_rfl) (by kernel_rfl) (by kernel_rfl) (fun _ _ _ h => h) (Or.inr ⟨by rfl, rfl⟩) hHeld ?_
        (try simp only [Act.put, List.setIfInBounds_toArray, List.set_cons_zero, List.set_cons_succ])
        refine wpAnyH_take (i := 12) (oi := ⟨some 27, _, _, _, _, _⟩) (v := undef) rfl (by kernel_rfl) (by kernel_rfl) (by kernel_rfl) (fun _ _ _ h => h) (Or.inr ⟨by rfl, rfl⟩) hHeld ?_
        (try simp only [Act.put, List.setIfInBounds_toArray, List.set_cons_zero, List.set_cons_succ])
        refine wpAnyH_take (i := 13) (oi := ⟨some 28, _, _, _, _, _⟩) (v := undef) rfl (by kernel_rfl) (by kernel_rfl) (by kernel_rfl) (fun _ _ _ h => h) (Or.inr ⟨by rfl, rfl⟩) hHeld ?_
        (try simp only [Act.put, List.setIfInBounds_toArray, List.set_cons_zero, List.set_cons_succ])
        refine wpAnyH_take (i := 14) (oi := ⟨some 29, _, _, _, _, _⟩) (v := undef) rfl (by kernel_rfl) (by kernel_rfl) (by kernel_rfl) (fun _ _ _ h => h) (Or.inr ⟨by rfl, rfl⟩) hHeld ?_
        (try simp only [Act.put, List.setIfInBounds_toArray, List.set_cons_zero, List.set_cons_succ])
        refine wpAnyH_take (i := 15) (oi := ⟨some 30, _, _, _, _, _⟩) (v := undef) rfl (by kernel_rfl) (by kernel_rfl) (by kernel_rfl) (fun _ _ _ h => h) (Or.inr ⟨by rfl, rfl⟩) hHeld ?_
        (try simp only [Act.put, List.setIfInBounds_toArray, List.set_cons_zero, List.set_cons_succ])
        refine wpAnyH_take (i := 16) (oi := ⟨some 31, _, _, _, _, _⟩) (v := undef) rfl (by kernel_rfl) (by kernel_rfl) (by kernel_rfl) (fun _ _ _ h => h) (Or.inr ⟨by rfl, rfl⟩) hHeld ?_
        (try simp only [Act.put, List.setIfInBounds_toArray, List.set_cons_zero, List.set_cons_succ])
        refine wpAnyH_take (i := 17) (oi := ⟨some 32, _, _, _, _, _⟩) (v := undef) rfl (by kernel_rfl) (by kernel_rfl) (by kernel_rfl) (fun _ _ _ h => h) (Or.inr ⟨by rfl, rfl⟩) hHeld ?_
        (try simp only [Act.put, List.setIfInBounds_toArray, List.set_cons_zero, List.set_cons_succ])
        refine wpAnyH_take (i := 18) (oi := ⟨some 33, _, _, _, _, _⟩) (v := undef) rfl (by kernel_rfl) (by kernel_rfl) (by kernel_rfl) (fun _ _ _ h => h) (Or.inr ⟨by rfl, rfl⟩) hHeld ?_
        (try simp only [Act.put, List.setIfInBounds_toArray, List.set_cons_zero, List.set_cons_succ])
        refine wpAnyH_take (i := 19) (oi := ⟨some 34, _, _, _, _, _⟩) (v := undef) rfl (by kernel_rfl) (by kernel_rfl) (by kernel_rfl) (fun _ _ _ h => h) (Or.inr ⟨by rfl, rfl⟩) hHeld ?_
        (try simp only [Act.put, List.setIfInBounds_toArray, List.set_cons_zero, List.set_cons_succ])
        refine wpAnyH_take (i := 20) (oi := ⟨some 35, _, _, _, _, _⟩) (v := undef) rfl (by kernel_rfl) (by kernel_rfl) (by kernel_rfl) (fun _ _ _ h => h) (Or.inr ⟨by rfl, rfl⟩) hHeld ?_
        (try simp only [Act.put, List.setIfInBounds_toArray, List.set_cons_zero, List.set_cons_succ])
        refine wpAnyH_take (i := 21) (oi := ⟨some 36, _, _, _, _, _⟩) (v := undef) rfl (by kernel_rfl) (by kernel_rfl) (by kernel_rfl) (fun _ _ _ h => h) (Or.inr ⟨by rfl, rfl⟩) hHeld ?_
        (try simp only [Act.put, List.setIfInBounds_toArray, List.set_cons_zero, List.set_cons_succ])
        refine wpAnyH_take (i := 22) (oi := ⟨some 37, _, _, _, _, _⟩) (v := undef) rfl (by kernel_rfl) (by kernel_rfl) (by kernel_rfl) (fun _ _ _ h => h) (Or.inr ⟨by rfl, rfl⟩) hHeld ?_
        (try simp only [Act.put, List.setIfInBounds_toArray, List.set_cons_zero, List.set_cons_succ])
        refine wpAnyH_take (i := 23) (oi := ⟨some 38, _, _, _, _, _⟩) (v := undef) rfl (by kernel_rfl) (by kernel_rfl) (by kernel_rfl) (fun _ _ _ h => h) (Or.inr ⟨by rfl, rfl⟩) hHeld ?_
        (try simp only [Act.put, List.setIfInBounds_toArray, List.set_cons_zero, List.set_cons_succ])
        refine wpAnyH_take (i := 24) (oi := ⟨some 39, _, _, _, _, _⟩) (v := undef) rfl (by kernel_rfl) (by kernel_rfl) (by kernel_rfl) (fun _ _ _ h => h) (Or.inr ⟨by rfl, rfl⟩) hHeld ?_
        (try simp only [Act.put, List.setIfInBounds_toArray, List.set_cons_zero, List.set_cons_succ])
        refine wpAnyH_take (i := 25) (oi := ⟨some 40, _, _, _, _, _⟩) (v := (.bool true)) rfl (by kernel_rfl) (by kernel_rfl) (by kernel_rfl) (fun _ _ _ h => h) (Or.inl ⟨by rfl, fun W hS => by go_simp⟩) hHeld ?_
        (try simp only [Act.put, List.setIfInBounds_toArray, List.set_cons_zero, List.set_cons_succ])
        refine wpAnyH_done (by kernel_rfl) ?_ _
        have HF := Aside0.mk (HW.out.trans ((HB2.out.trans (hHeld.mono (below_size HB2.out))).mono (below_size HW.out)))
        clear hHeld HB2'
        (try simp only [Exit.then])
        go_wp2
        go_ret
        exact ⟨rfl, HF.out⟩
      | true =>
      have HNZ := Aside0.mk (show nm.size ≤ 17592186044416 by have := valid_size HV.out; omega)
      by_cases hj1 : j = 0
      · have hok1 : okAt l j = true := by rw [hok, decide_eq_true hj1, Bool.true_or]; rfl
        have hp0 : decide ((0 : Int) < (j : Int)) = false := decide_eq_false (by omega)
        have HJ1 := Aside0.mk hj1
        have HO := Aside0.mk hok1
        clear hok hok1 hino hnm hlt hj hj1
        go_wp2_with (first
    | ((with_reducible refine gate_dst (N := 14) rfl ?_); refine wpList_load_pair rfl 90 (.tmp 13) (by kernel_rfl) _ (by go_simp; rfl) _ _ _ c0 c1 hu42.out rfl (by kernel_rfl) ?_)
    | ((with_reducible refine gate_dst (N := 4) rfl ?_); refine box_event ?hg (N := 4) ?hd (cs := #[.int .i64 0, .string ⟨#[]⟩]) (t := 90) ?hr ?_; (case hd => rfl); (case hg => rfl); (case hr => first | (go_simp; done) | (go_simp; rfl) | kernel_rfl); intro gg hg w1 hbox hb; have Gg := Aside0.mk (show wr.heap.size ≤ gg from Nat.le_of_eq hg.symm); have HB1 := Aside0.mk (hb); have Bg1 := Aside0.mk (hbox); clear hb hbox hg)
    | ((with_reducible refine gate_store (t := 90) (p := 4) (v := .tmp 14) rfl ?_); refine ev_store_row (by rfl) 90 (.tmp 4) (.tmp 14) (by rfl) gg (cellsE ino nm) (by kernel_rfl) (by kernel_rfl) 90 _ Bg1.out (sizeEntry _ _) (by rfl) (cellsE_all _ _) ?_; intro w2 hbox hg; have HB2 := Aside0.mk (pw_below_grown HB1.out _ HB1.out.size hg (fun q e => by cases e; exact Gg.out)); have Bg2 := Aside0.mk (hbox); have d0_2 : w2.cell? ⟨gg, 0, none⟩ = some (.int .i64 ino) := blk_cell Bg2.out 0; have d1_2 : w2.cell? ⟨gg, 1, none⟩ = some (.string nm) := blk_cell Bg2.out 1; clear hbox hg))
        have HB2' := HB2.out
        refine wp_region_held_drew (S := fun W => Below w2.heap.size w2 W) (by kernel_rfl) (below_drew (Below.refl w2.heap.size w2)) (fun hHeld => ?_)
        refine wpAnyH_take (i := 0) (oi := ⟨some 15, _, _, _, _, _⟩) (v := (.pointer (some ⟨gg, 0, none⟩))) rfl (by kernel_rfl) (by kernel_rfl) (by kernel_rfl) (fun _ _ _ h => h) (Or.inl ⟨by rfl, fun W hS => by go_simp⟩) hHeld ?_
        (try simp only [Act.put, List.setIfInBounds_toArray, List.set_cons_zero, List.set_cons_succ])
        refine wpAnyH_take (i := 1) (oi := ⟨some 16, _, _, _, _, _⟩) (v := (.int .i64 ino)) rfl (by kernel_rfl) (by kernel_rfl) (by kernel_rfl) (fun _ _ _ h => h) (Or.inl ⟨by rfl, fun W hS => by have d0 : W.cell? ⟨gg, 0, none⟩ = some (.int .i64 ino) := blk_cell (blk_below Bg2.out hS) 0; go_simp⟩) hHeld ?_
        (try simp only [Act.put, List.setIfInBounds_toArray, List.set_cons_zero, List.set_cons_succ])
        refine wpAnyH_ready (rs := [2]) (by kernel_rfl) (by simp) ?_
        refine AllReadyH.cons rfl (fun K hK => ?_) AllReadyH.nil
        go_simp
        refine (may_call ino _).mono ?_
        rw [HM.out]
        rintro e w3 ⟨rfl, hb⟩
        dsimp only
        refine hK.out _ _ (below_step hHeld hb) (fun hH => ?_)
        clear hK K hHeld hb
        have hHeld := hH
        clear hH
        (try simp only [Act.put, List.setIfInBounds_toArray, List.set_cons_zero, List.set_cons_succ])
        refine wpAnyH_take (i := 3) (oi := ⟨some 18, _, _, _, _, _⟩) (v := (.bool false)) rfl (by kernel_rfl) (by kernel_rfl) (by kernel_rfl) (fun _ _ _ h => h) (Or.inl ⟨by rfl, fun W hS => by go_simp⟩) hHeld ?_
        (try simp only [Act.put, List.setIfInBounds_toArray, List.set_cons_zero, List.set_cons_succ])
        refine wpAnyH_take (i := 4) (oi := ⟨some 19, _, _, _, _, _⟩) (v := (.bool false)) rfl (by kernel_rfl) (by kernel_rfl) (by kernel_rfl) (fun _ _ _ h => h) (Or.inl ⟨by rfl, fun W hS => by go_simp⟩) hHeld ?_
        (try simp only [Act.put, List.setIfInBounds_toArray, List.set_cons_zero, List.set_cons_succ])
        refine wpAnyH_take (i := 5) (oi := ⟨some 20, _, _, _, _, _⟩) (v := (.pointer (some ⟨gg, 1, none⟩))) rfl (by kernel_rfl) (by kernel_rfl) (by kernel_rfl) (fun _ _ _ h => h) (Or.inl ⟨by rfl, fun W hS => by go_simp⟩) hHeld ?_
        (try simp only [Act.put, List.setIfInBounds_toArray, List.set_cons_zero, List.set_cons_succ])
        refine wpAnyH_take (i := 6) (oi := ⟨some 21, _, _, _, _, _⟩) (v := (.string nm)) rfl (by kernel_rfl) (by kernel_rfl) (by kernel_rfl) (fun _ _ _ h => h) (Or.inl ⟨by rfl, fun W hS => by have d1 : W.cell? ⟨gg, 1, none⟩ = some (.string nm) := blk_cell (blk_below Bg2.out hS) 1; go_simp⟩) hHeld ?_
        (try simp only [Act.put, List.setIfInBounds_toArray, List.set_cons_zero, List.set_cons_succ])
        refine wpAnyH_ready (rs := [7]) (by kernel_rfl) (by simp) ?_
        refine AllReadyH.cons rfl (fun K hK => ?_) AllReadyH.nil
        rw [if_pos (by rfl)]
        go_simp
        refine (valid_any nm _ (by have := HZ.out; omega) (tabs_of (HW.out.trans ((HB2.out.trans (hHeld.mono (below_size HB2.out))).mono (below_size HW.out))) HT.out)).mono ?_
        rw [HV.out]
        rintro e w4 ⟨rfl, hb⟩
        dsimp only
        refine hK.out _ _ (below_step hHeld hb) (fun hH => ?_)
        clear hK K hHeld hb
        have hHeld := hH
        clear hH
        (try simp only [Act.put, List.setIfInBounds_toArray, List.set_cons_zero, List.set_cons_succ])
        refine wpAnyH_take (i := 8) (oi := ⟨some 23, _, _, _, _, _⟩) (v := (.bool false)) rfl (by kernel_rfl) (by kernel_rfl) (by kernel_rfl) (fun _ _ _ h => h) (Or.inl ⟨by rfl, fun W hS => by go_simp⟩) hHeld ?_
        (try simp only [Act.put, List.setIfInBounds_toArray, List.set_cons_zero, List.set_cons_succ])
        refine wpAnyH_take (i := 9) (oi := ⟨some 24, _, _, _, _, _⟩) (v := (.bool false)) rfl (by kernel_rfl) (by kernel_rfl) (by kernel_rfl) (fun _ _ _ h => h) (Or.inl ⟨by rfl, fun W hS => by go_simp⟩) hHeld ?_
        (try simp only [Act.put, List.setIfInBounds_toArray, List.set_cons_zero, List.set_cons_succ])
        refine wpAnyH_take (i := 10) (oi := ⟨some 25, _, _, _, _, _⟩) (v := (.bool false)) rfl (by kernel_rfl) (by kernel_rfl) (by kernel_rfl) (fun _ _ _ h => h) (Or.inl ⟨by rfl, fun W hS => by go_simp⟩) hHeld ?_
        (try simp only [Act.put, List.setIfInBounds_toArray, List.set_cons_zero, List.set_cons_succ])
        refine wpAnyH_take (i := 11) (oi := ⟨some 26, _, _, _, _, _⟩) (v := (.int .i64 (j : Int))) rfl (by kernel_rfl) (by kernel_rfl) (by kernel_rfl) (fun _ _ _ h => h) (Or.inl ⟨by rfl, fun W hS => by go_simp⟩) hHeld ?_
        (try simp only [Act.put, List.setIfInBounds_toArray, List.set_cons_zero, List.set_cons_succ])
        refine wpAnyH_take (i := 12) (oi := ⟨some 27, _, _, _, _, _⟩) (v := (.bool false)) rfl (by kernel_rfl) (by kernel_rfl) (by kernel_rfl) (fun _ _ _ h => h) (Or.inl ⟨by rfl, fun W hS => by go_simp; exact HJ1.out⟩) hHeld ?_
        (try simp only [Act.put, List.setIfInBounds_toArray, List.set_cons_zero, List.set_cons_succ])
        refine wpAnyH_take (i := 13) (oi := ⟨some 28, _, _, _, _, _⟩) (v := (.bool false)) rfl (by kernel_rfl) (by kernel_rfl) (by kernel_rfl) (fun _ _ _ h => h) (Or.inl ⟨by rfl, fun W hS => by go_simp⟩) hHeld ?_
        (try simp only [Act.put, List.setIfInBounds_toArray, List.set_cons_zero, List.set_cons_succ])
        refine wpAnyH_take (i := 14) (oi := ⟨some 29, _, _, _, _, _⟩) (v := undef) rfl (by kernel_rfl) (by kernel_rfl) (by kernel_rfl) (fun _ _ _ h => h) (Or.inr ⟨by rfl, rfl⟩) hHeld ?_
        (try simp only [Act.put, List.setIfInBounds_toArray, List.set_cons_zero, List.set_cons_succ])
        refine wpAnyH_take (i := 15) (oi := ⟨some 30, _, _, _, _, _⟩) (v := undef) rfl (by kernel_rfl) (by kernel_rfl) (by kernel_rfl) (fun _ _ _ h => h) (Or.inr ⟨by rfl, rfl⟩) hHeld ?_
        (try simp only [Act.put, List.setIfInBounds_toArray, List.set_cons_zero, List.set_cons_succ])
        refine wpAnyH_take (i := 16) (oi := ⟨some 31, _, _, _, _, _⟩) (v := undef) rfl (by kernel_rfl) (by kernel_rfl) (by kernel_rfl) (fun _ _ _ h => h) (Or.inr ⟨by rfl, rfl⟩) hHeld ?_
        (try simp only [Act.put, List.setIfInBounds_toArray, List.set_cons_zero, List.set_cons_succ])
        refine wpAnyH_take (i := 17) (oi := ⟨some 32, _, _, _, _, _⟩) (v := undef) rfl (by kernel_rfl) (by kernel_rfl) (by kernel_rfl) (fun _ _ _ h => h) (Or.inr ⟨by rfl, rfl⟩) hHeld ?_
        (try simp only [Act.put, List.setIfInBounds_toArray, List.set_cons_zero, List.set_cons_succ])
        refine wpAnyH_take (i := 18) (oi := ⟨some 33, _, _, _, _, _⟩) (v := undef) rfl (by kernel_rfl) (by kernel_rfl) (by kernel_rfl) (fun _ _ _ h => h) (Or.inr ⟨by rfl, rfl⟩) hHeld ?_
        (try simp only [Act.put, List.setIfInBounds_toArray, List.set_cons_zero, List.set_cons_succ])
        refine wpAnyH_take (i := 19) (oi := ⟨some 34, _, _, _, _, _⟩) (v := undef) rfl (by kernel_rfl) (by kernel_rfl) (by kernel_rfl) (fun _ _ _ h => h) (Or.inr ⟨by rfl, rfl⟩) hHeld ?_
        (try simp only [Act.put, List.setIfInBounds_toArray, List.set_cons_zero, List.set_cons_succ])
        refine wpAnyH_take (i := 20) (oi := ⟨some 35, _, _, _, _, _⟩) (v := undef) rfl (by kernel_rfl) (by kernel_rfl) (by kernel_rfl) (fun _ _ _ h => h) (Or.inr ⟨by rfl, rfl⟩) hHeld ?_
        (try simp only [Act.put, List.setIfInBounds_toArray, List.set_cons_zero, List.set_cons_succ])
        refine wpAnyH_take (i := 21) (oi := ⟨some 36, _, _, _, _, _⟩) (v := undef) rfl (by kernel_rfl) (by kernel_rfl) (by kernel_rfl) (fun _ _ _ h => h) (Or.inr ⟨by rfl, rfl⟩) hHeld ?_
        (try simp only [Act.put, List.setIfInBounds_toArray, List.set_cons_zero, List.set_cons_succ])
        refine wpAnyH_take (i := 22) (oi := ⟨some 37, _, _, _, _, _⟩) (v := undef) rfl (by kernel_rfl) (by kernel_rfl) (by kernel_rfl) (fun _ _ _ h => h) (Or.inr ⟨by rfl, rfl⟩) hHeld ?_
        (try simp only [Act.put, List.setIfInBounds_toArray, List.set_cons_zero, List.set_cons_succ])
        refine wpAnyH_take (i := 23) (oi := ⟨some 38, _, _, _, _, _⟩) (v := undef) rfl (by kernel_rfl) (by kernel_rfl) (by kernel_rfl) (fun _ _ _ h => h) (Or.inr ⟨by rfl, rfl⟩) hHeld ?_
        (try simp only [Act.put, List.setIfInBounds_toArray, List.set_cons_zero, List.set_cons_succ])
        refine wpAnyH_take (i := 24) (oi := ⟨some 39, _, _, _, _, _⟩) (v := (.bool false)) rfl (by kernel_rfl) (by kernel_rfl) (by kernel_rfl) (fun _ _ _ h => h) (Or.inl ⟨by rfl, fun W hS => by go_simp⟩) hHeld ?_
        (try simp only [Act.put, List.setIfInBounds_toArray, List.set_cons_zero, List.set_cons_succ])
        refine wpAnyH_take (i := 25) (oi := ⟨some 40, _, _, _, _, _⟩) (v := (.bool false)) rfl (by kernel_rfl) (by kernel_rfl) (by kernel_rfl) (fun _ _ _ h => h) (Or.inl ⟨by rfl, fun W hS => by go_simp⟩) hHeld ?_
        (try simp only [Act.put, List.setIfInBounds_toArray, List.set_cons_zero, List.set_cons_succ])
        refine wpAnyH_done (by kernel_rfl) ?_ _
        have HF := Aside0.mk (HW.out.trans ((HB2.out.trans (hHeld.mono (below_size HB2.out))).mono (below_size HW.out)))
        clear hHeld HB2'
        (try simp only [Exit.then])
        go_wp2
        go_roundw
        case rel => exact ⟨j + 1, HJ.out, by go_num, HF, ⟨fun k hk => by
              have := HJ1.out
              obtain rfl : k = j := by omega
              exact HO.out⟩⟩
        case measure => simp [intOf]; have := HJ.out; omega
      · obtain ⟨i, hi⟩ : ∃ i, j = i + 1 := ⟨j - 1, by omega⟩
        have hp0 : (0 : Int) < (j : Int) := by omega
        have HJP := Aside0.mk (show 0 < j by omega)
        have hwi : IntKind.wrap .i64 ((j : Int) - 1) = (i : Int) := (IntWalk.i64_in _ ⟨by omega, by omega⟩).trans (by omega)
        have hi0 : (0 : Int) ≤ (i : Int) := Int.natCast_nonneg _
        have hil : (i : Int) < (l.length : Int) := by omega
        obtain ⟨_, e1, _, pp⟩ := (HR.out.below HW.out).at_ (show i < l.length by omega)
        obtain rfl := (Option.some.inj e1)
        clear e1
        have hpo := HK.out i (by omega)
        rw [show j - 1 = i by omega, decide_eq_false hj1, Bool.false_or] at hok
        obtain ⟨pn, hpn⟩ : ∃ x, nameAt l i = x := ⟨_, rfl⟩
        rw [hpn] at pp hok
        have HPZ := Aside0.mk (show pn.size ≤ 17592186044416 by
          unfold okAt at hpo
          simp only [Bool.and_eq_true] at hpo
          have := valid_size (hpn ▸ hpo.1.2)
          omega)
        clear hpo
        obtain ⟨cc, HC⟩ : ∃ b, Aside0 (NM.ahead pn.data.toList nm.data.toList = b) := ⟨_, ⟨rfl⟩⟩
        rw [HC.out] at hok
        have hne : (i + 1 == 0) = false := rfl
        by_cases hc : cc < 0
        · have hcb : decide (0 ≤ cc) = false := decide_eq_false (by omega)
          have HO := Aside0.mk (show okAt l j = true by rw [hok, decide_eq_true hc]; rfl)
          have HI := Aside0.mk hi
          clear hok hino hnm hlt hj hpn hi hj1
          go_wp2_with (first
    | ((with_reducible refine gate_dst (N := 14) rfl ?_); refine wpList_load_pair rfl 90 (.tmp 13) (by kernel_rfl) _ (by go_simp; rfl) _ _ _ c0 c1 hu42.out rfl (by kernel_rfl) ?_)
    | ((with_reducible refine gate_dst (N := 4) rfl ?_); refine box_event ?hg (N := 4) ?hd (cs := #[.int .i64 0, .string ⟨#[]⟩]) (t := 90) ?hr ?_; (case hd => rfl); (case hg => rfl); (case hr => first | (go_simp; done) | (go_simp; rfl) | kernel_rfl); intro gg hg w1 hbox hb; have Gg := Aside0.mk (show wr.heap.size ≤ gg from Nat.le_of_eq hg.symm); have HB1 := Aside0.mk (hb); have Bg1 := Aside0.mk (hbox); clear hb hbox hg)
    | ((with_reducible refine gate_store (t := 90) (p := 4) (v := .tmp 14) rfl ?_); refine ev_store_row (by rfl) 90 (.tmp 4) (.tmp 14) (by rfl) gg (cellsE ino nm) (by kernel_rfl) (by kernel_rfl) 90 _ Bg1.out (sizeEntry _ _) (by rfl) (cellsE_all _ _) ?_; intro w2 hbox hg; have HB2 := Aside0.mk (pw_below_grown HB1.out _ HB1.out.size hg (fun q e => by cases e; exact Gg.out)); have Bg2 := Aside0.mk (hbox); have d0_2 : w2.cell? ⟨gg, 0, none⟩ = some (.int .i64 ino) := blk_cell Bg2.out 0; have d1_2 : w2.cell? ⟨gg, 1, none⟩ = some (.string nm) := blk_cell Bg2.out 1; have pp2 := pw_cell_below HB2.out pp; clear hbox hg))
          have HB2' := HB2.out
          refine wp_region_held_drew (S := fun W => Below w2.heap.size w2 W) (by kernel_rfl) (below_drew (Below.refl w2.heap.size w2)) (fun hHeld => ?_)
          refine wpAnyH_take (i := 0) (oi := ⟨some 15, _, _, _, _, _⟩) (v := (.pointer (some ⟨gg, 0, none⟩))) rfl (by kernel_rfl) (by kernel_rfl) (by kernel_rfl) (fun _ _ _ h => h) (Or.inl ⟨by rfl, fun W hS => by go_simp⟩) hHeld ?_
          (try simp only [Act.put, List.setIfInBounds_toArray, List.set_cons_zero, List.set_cons_succ])
          refine wpAnyH_take (i := 1) (oi := ⟨some 16, _, _, _, _, _⟩) (v := (.int .i64 ino)) rfl (by kernel_rfl) (by kernel_rfl) (by kernel_rfl) (fun _ _ _ h => h) (Or.inl ⟨by rfl, fun W hS => by have d0 : W.cell? ⟨gg, 0, none⟩ = some (.int .i64 ino) := blk_cell (blk_below Bg2.out hS) 0; go_simp⟩) hHeld ?_
          (try simp only [Act.put, List.setIfInBounds_toArray, List.set_cons_zero, List.set_cons_succ])
          refine wpAnyH_ready (rs := [2]) (by kernel_rfl) (by simp) ?_
          refine AllReadyH.cons rfl (fun K hK => ?_) AllReadyH.nil
          go_simp
          refine (may_call ino _).mono ?_
          rw [HM.out]
          rintro e w3 ⟨rfl, hb⟩
          dsimp only
          refine hK.out _ _ (below_step hHeld hb) (fun hH => ?_)
          clear hK K hHeld hb
          have hHeld := hH
          clear hH
          (try simp only [Act.put, List.setIfInBounds_toArray, List.set_cons_zero, List.set_cons_succ])
          refine wpAnyH_take (i := 3) (oi := ⟨some 18, _, _, _, _, _⟩) (v := (.bool false)) rfl (by kernel_rfl) (by kernel_rfl) (by kernel_rfl) (fun _ _ _ h => h) (Or.inl ⟨by rfl, fun W hS => by go_simp⟩) hHeld ?_
          (try simp only [Act.put, List.setIfInBounds_toArray, List.set_cons_zero, List.set_cons_succ])
          refine wpAnyH_take (i := 4) (oi := ⟨some 19, _, _, _, _, _⟩) (v := (.bool false)) rfl (by kernel_rfl) (by kernel_rfl) (by kernel_rfl) (fun _ _ _ h => h) (Or.inl ⟨by rfl, fun W hS => by go_simp⟩) hHeld ?_
          (try simp only [Act.put, List.setIfInBounds_toArray, List.set_cons_zero, List.set_cons_succ])
          refine wpAnyH_take (i := 5) (oi := ⟨some 20, _, _, _, _, _⟩) (v := (.pointer (some ⟨gg, 1, none⟩))) rfl (by kernel_rfl) (by kernel_rfl) (by kernel_rfl) (fun _ _ _ h => h) (Or.inl ⟨by rfl, fun W hS => by go_simp⟩) hHeld ?_
          (try simp only [Act.put, List.setIfInBounds_toArray, List.set_cons_zero, List.set_cons_succ])
          refine wpAnyH_take (i := 6) (oi := ⟨some 21, _, _, _, _, _⟩) (v := (.string nm)) rfl (by kernel_rfl) (by kernel_rfl) (by kernel_rfl) (fun _ _ _ h => h) (Or.inl ⟨by rfl, fun W hS => by have d1 : W.cell? ⟨gg, 1, none⟩ = some (.string nm) := blk_cell (blk_below Bg2.out hS) 1; go_simp⟩) hHeld ?_
          (try simp only [Act.put, List.setIfInBounds_toArray, List.set_cons_zero, List.set_cons_succ])
          refine wpAnyH_ready (rs := [7]) (by kernel_rfl) (by simp) ?_
          refine AllReadyH.cons rfl (fun K hK => ?_) AllReadyH.nil
          rw [if_pos (by rfl)]
          go_simp
          refine (valid_any nm _ (by have := HZ.out; omega) (tabs_of (HW.out.trans ((HB2.out.trans (hHeld.mono (below_size HB2.out))).mono (below_size HW.out))) HT.out)).mono ?_
          rw [HV.out]
          rintro e w4 ⟨rfl, hb⟩
          dsimp only
          refine hK.out _ _ (below_step hHeld hb) (fun hH => ?_)
          clear hK K hHeld hb
          have hHeld := hH
          clear hH
          (try simp only [Act.put, List.setIfInBounds_toArray, List.set_cons_zero, List.set_cons_succ])
          refine wpAnyH_take (i := 8) (oi := ⟨some 23, _, _, _, _, _⟩) (v := (.bool false)) rfl (by kernel_rfl) (by kernel_rfl) (by kernel_rfl) (fun _ _ _ h => h) (Or.inl ⟨by rfl, fun W hS => by go_simp⟩) hHeld ?_
          (try simp only [Act.put, List.setIfInBounds_toArray, List.set_cons_zero, List.set_cons_succ])
          refine wpAnyH_take (i := 9) (oi := ⟨some 24, _, _, _, _, _⟩) (v := (.bool false)) rfl (by kernel_rfl) (by kernel_rfl) (by kernel_rfl) (fun _ _ _ h => h) (Or.inl ⟨by rfl, fun W hS => by go_simp⟩) hHeld ?_
          (try simp only [Act.put, List.setIfInBounds_toArray, List.set_cons_zero, List.set_cons_succ])
          refine wpAnyH_take (i := 10) (oi := ⟨some 25, _, _, _, _, _⟩) (v := (.bool false)) rfl (by kernel_rfl) (by kernel_rfl) (by kernel_rfl) (fun _ _ _ h => h) (Or.inl ⟨by rfl, fun W hS => by go_simp⟩) hHeld ?_
          (try simp only [Act.put, List.setIfInBounds_toArray, List.set_cons_zero, List.set_cons_succ])
          refine wpAnyH_take (i := 11) (oi := ⟨some 26, _, _, _, _, _⟩) (v := (.int .i64 (j : Int))) rfl (by kernel_rfl) (by kernel_rfl) (by kernel_rfl) (fun _ _ _ h => h) (Or.inl ⟨by rfl, fun W hS => by go_simp⟩) hHeld ?_
          (try simp only [Act.put, List.setIfInBounds_toArray, List.set_cons_zero, List.set_cons_succ])
          refine wpAnyH_take (i := 12) (oi := ⟨some 27, _, _, _, _, _⟩) (v := (.bool true)) rfl (by kernel_rfl) (by kernel_rfl) (by kernel_rfl) (fun _ _ _ h => h) (Or.inl ⟨by rfl, fun W hS => by go_simp; exact HJP.out⟩) hHeld ?_
          (try simp only [Act.put, List.setIfInBounds_toArray, List.set_cons_zero, List.set_cons_succ])
          refine wpAnyH_take (i := 13) (oi := ⟨some 28, _, _, _, _, _⟩) (v := (.bool true)) rfl (by kernel_rfl) (by kernel_rfl) (by kernel_rfl) (fun _ _ _ h => h) (Or.inl ⟨by rfl, fun W hS => by go_simp⟩) hHeld ?_
          (try simp only [Act.put, List.setIfInBounds_toArray, List.set_cons_zero, List.set_cons_succ])
          refine wpAnyH_take (i := 14) (oi := ⟨some 29, _, _, _, _, _⟩) (v := (.slice (some ad) l.length c)) rfl (by kernel_rfl) (by kernel_rfl) (by kernel_rfl) (fun _ _ _ h => h) (Or.inl ⟨by rfl, fun W hS => by go_simp⟩) hHeld ?_
          (try simp only [Act.put, List.setIfInBounds_toArray, List.set_cons_zero, List.set_cons_succ])
          refine wpAnyH_take (i := 15) (oi := ⟨some 30, _, _, _, _, _⟩) (v := (.int .i64 (j : Int))) rfl (by kernel_rfl) (by kernel_rfl) (by kernel_rfl) (fun _ _ _ h => h) (Or.inl ⟨by rfl, fun W hS => by go_simp⟩) hHeld ?_
          (try simp only [Act.put, List.setIfInBounds_toArray, List.set_cons_zero, List.set_cons_succ])
          refine wpAnyH_take (i := 16) (oi := ⟨some 31, _, _, _, _, _⟩) (v := (.int .i64 (i : Int))) rfl (by kernel_rfl) (by kernel_rfl) (by kernel_rfl) (fun _ _ _ h => h) (Or.inl ⟨by rfl, fun W hS => by go_simp⟩) hHeld ?_
          (try simp only [Act.put, List.setIfInBounds_toArray, List.set_cons_zero, List.set_cons_succ])
          refine wpAnyH_take (i := 17) (oi := ⟨some 32, _, _, _, _, _⟩) (v := (.pointer (some (ad.add (i * 2))))) rfl (by kernel_rfl) (by kernel_rfl) (by kernel_rfl) (fun _ _ _ h => h) (Or.inl ⟨by rfl, fun W hS => by go_simp⟩) hHeld ?_
          (try simp only [Act.put, List.setIfInBounds_toArray, List.set_cons_zero, List.set_cons_succ])
          refine wpAnyH_take (i := 18) (oi := ⟨some 33, _, _, _, _, _⟩) (v := (.pointer (some ⟨(ad.add (i * 2)).block, (ad.add (i * 2)).off + 1, none⟩))) rfl (by kernel_rfl) (by kernel_rfl) (by kernel_rfl) (fun _ _ _ h => h) (Or.inl ⟨by rfl, fun W hS => by go_simp⟩) hHeld ?_
          (try simp only [Act.put, List.setIfInBounds_toArray, List.set_cons_zero, List.set_cons_succ])
          refine wpAnyH_take (i := 19) (oi := ⟨some 34, _, _, _, _, _⟩) (v := (.string pn)) rfl (by kernel_rfl) (by kernel_rfl) (by kernel_rfl) (fun _ _ _ h => h) (Or.inl ⟨by rfl, fun W hS => by have pp3 := pw_cell_below hS pp2; go_simp⟩) hHeld ?_
          (try simp only [Act.put, List.setIfInBounds_toArray, List.set_cons_zero, List.set_cons_succ])
          refine wpAnyH_take (i := 20) (oi := ⟨some 35, _, _, _, _, _⟩) (v := (.pointer (some ⟨gg, 1, none⟩))) rfl (by kernel_rfl) (by kernel_rfl) (by kernel_rfl) (fun _ _ _ h => h) (Or.inl ⟨by rfl, fun W hS => by go_simp⟩) hHeld ?_
          (try simp only [Act.put, List.setIfInBounds_toArray, List.set_cons_zero, List.set_cons_succ])
          refine wpAnyH_take (i := 21) (oi := ⟨some 36, _, _, _, _, _⟩) (v := (.string nm)) rfl (by kernel_rfl) (by kernel_rfl) (by kernel_rfl) (fun _ _ _ h => h) (Or.inl ⟨by rfl, fun W hS => by have d1 : W.cell? ⟨gg, 1, none⟩ = some (.string nm) := blk_cell (blk_below Bg2.out hS) 1; go_simp⟩) hHeld ?_
          (try simp only [Act.put, List.setIfInBounds_toArray, List.set_cons_zero, List.set_cons_succ])
          refine wpAnyH_ready (rs := [22]) (by kernel_rfl) (by simp) ?_
          refine AllReadyH.cons rfl (fun K hK => ?_) AllReadyH.nil
          rw [if_pos (by rfl)]
          go_simp
          refine (compare_any pn nm _ HPZ.out HNZ.out).mono ?_
          rw [HC.out]
          rintro e w5 ⟨rfl, hb⟩
          dsimp only
          refine hK.out _ _ (below_step hHeld hb) (fun hH => ?_)
          clear hK K hHeld hb
          have hHeld := hH
          clear hH
          (try simp only [Act.put, List.setIfInBounds_toArray, List.set_cons_zero, List.set_cons_succ])
          refine wpAnyH_take (i := 23) (oi := ⟨some 38, _, _, _, _, _⟩) (v := (.bool false)) rfl (by kernel_rfl) (by kernel_rfl) (by kernel_rfl) (fun _ _ _ h => h) (Or.inl ⟨by rfl, fun W hS => by go_simp⟩) hHeld ?_
          (try simp only [Act.put, List.setIfInBounds_toArray, List.set_cons_zero, List.set_cons_succ])
          refine wpAnyH_take (i := 24) (oi := ⟨some 39, _, _, _, _, _⟩) (v := (.bool false)) rfl (by kernel_rfl) (by kernel_rfl) (by kernel_rfl) (fun _ _ _ h => h) (Or.inl ⟨by rfl, fun W hS => by go_simp⟩) hHeld ?_
          (try simp only [Act.put, List.setIfInBounds_toArray, List.set_cons_zero, List.set_cons_succ])
          refine wpAnyH_take (i := 25) (oi := ⟨some 40, _, _, _, _, _⟩) (v := (.bool false)) rfl (by kernel_rfl) (by kernel_rfl) (by kernel_rfl) (fun _ _ _ h => h) (Or.inl ⟨by rfl, fun W hS => by go_simp⟩) hHeld ?_
          (try simp only [Act.put, List.setIfInBounds_toArray, List.set_cons_zero, List.set_cons_succ])
          refine wpAnyH_done (by kernel_rfl) ?_ _
          have HF := Aside0.mk (HW.out.trans ((HB2.out.trans (hHeld.mono (below_size HB2.out))).mono (below_size HW.out)))
          clear hHeld HB2'
          (try simp only [Exit.then])
          go_wp2
          go_roundw
          case rel => exact ⟨j + 1, HJ.out, by go_num, HF, ⟨fun k hk => by
              by_cases h : k = j
              · rw [h]; exact HO.out
              · exact HK.out k (by omega)⟩⟩
          case measure => simp [intOf]; have := HJ.out; omega
        · have hcb : decide (0 ≤ cc) = true := decide_eq_true (by omega)
          have hc' : 0 ≤ cc := by omega
          obtain rfl : M = false := by
            rw [← HMM.out]
            refine mayE_false HJ.out ?_
            rw [hok, decide_eq_false hc]
            rfl
          clear hok hino hnm hlt hj hpn hi hj1 hc
          go_wp2_with (first
    | ((with_reducible refine gate_dst (N := 14) rfl ?_); refine wpList_load_pair rfl 90 (.tmp 13) (by kernel_rfl) _ (by go_simp; rfl) _ _ _ c0 c1 hu42.out rfl (by kernel_rfl) ?_)
    | ((with_reducible refine gate_dst (N := 4) rfl ?_); refine box_event ?hg (N := 4) ?hd (cs := #[.int .i64 0, .string ⟨#[]⟩]) (t := 90) ?hr ?_; (case hd => rfl); (case hg => rfl); (case hr => first | (go_simp; done) | (go_simp; rfl) | kernel_rfl); intro gg hg w1 hbox hb; have Gg := Aside0.mk (show wr.heap.size ≤ gg from Nat.le_of_eq hg.symm); have HB1 := Aside0.mk (hb); have Bg1 := Aside0.mk (hbox); clear hb hbox hg)
    | ((with_reducible refine gate_store (t := 90) (p := 4) (v := .tmp 14) rfl ?_); refine ev_store_row (by rfl) 90 (.tmp 4) (.tmp 14) (by rfl) gg (cellsE ino nm) (by kernel_rfl) (by kernel_rfl) 90 _ Bg1.out (sizeEntry _ _) (by rfl) (cellsE_all _ _) ?_; intro w2 hbox hg; have HB2 := Aside0.mk (pw_below_grown HB1.out _ HB1.out.size hg (fun q e => by cases e; exact Gg.out)); have Bg2 := Aside0.mk (hbox); have d0_2 : w2.cell? ⟨gg, 0, none⟩ = some (.int .i64 ino) := blk_cell Bg2.out 0; have d1_2 : w2.cell? ⟨gg, 1, none⟩ = some (.string nm) := blk_cell Bg2.out 1; have pp2 := pw_cell_below HB2.out pp; clear hbox hg))
          have HB2' := HB2.out
          refine wp_region_held_drew (S := fun W => Below w2.heap.size w2 W) (by kernel_rfl) (below_drew (Below.refl w2.heap.size w2)) (fun hHeld => ?_)
          refine wpAnyH_take (i := 0) (oi := ⟨some 15, _, _, _, _, _⟩) (v := (.pointer (some ⟨gg, 0, none⟩))) rfl (by kernel_rfl) (by kernel_rfl) (by kernel_rfl) (fun _ _ _ h => h) (Or.inl ⟨by rfl, fun W hS => by go_simp⟩) hHeld ?_
          (try simp only [Act.put, List.setIfInBounds_toArray, List.set_cons_zero, List.set_cons_succ])
          refine wpAnyH_take (i := 1) (oi := ⟨some 16, _, _, _, _, _⟩) (v := (.int .i64 ino)) rfl (by kernel_rfl) (by kernel_rfl) (by kernel_rfl) (fun _ _ _ h => h) (Or.inl ⟨by rfl, fun W hS => by have d0 : W.cell? ⟨gg, 0, none⟩ = some (.int .i64 ino) := blk_cell (blk_below Bg2.out hS) 0; go_simp⟩) hHeld ?_
          (try simp only [Act.put, List.setIfInBounds_toArray, List.set_cons_zero, List.set_cons_succ])
          refine wpAnyH_ready (rs := [2]) (by kernel_rfl) (by simp) ?_
          refine AllReadyH.cons rfl (fun K hK => ?_) AllReadyH.nil
          go_simp
          refine (may_call ino _).mono ?_
          rw [HM.out]
          rintro e w3 ⟨rfl, hb⟩
          dsimp only
          refine hK.out _ _ (below_step hHeld hb) (fun hH => ?_)
          clear hK K hHeld hb
          have hHeld := hH
          clear hH
          (try simp only [Act.put, List.setIfInBounds_toArray, List.set_cons_zero, List.set_cons_succ])
          refine wpAnyH_take (i := 3) (oi := ⟨some 18, _, _, _, _, _⟩) (v := (.bool false)) rfl (by kernel_rfl) (by kernel_rfl) (by kernel_rfl) (fun _ _ _ h => h) (Or.inl ⟨by rfl, fun W hS => by go_simp⟩) hHeld ?_
          (try simp only [Act.put, List.setIfInBounds_toArray, List.set_cons_zero, List.set_cons_succ])
          refine wpAnyH_take (i := 4) (oi := ⟨some 19, _, _, _, _, _⟩) (v := (.bool false)) rfl (by kernel_rfl) (by kernel_rfl) (by kernel_rfl) (fun _ _ _ h => h) (Or.inl ⟨by rfl, fun W hS => by go_simp⟩) hHeld ?_
          (try simp only [Act.put, List.setIfInBounds_toArray, List.set_cons_zero, List.set_cons_succ])
          refine wpAnyH_take (i := 5) (oi := ⟨some 20, _, _, _, _, _⟩) (v := (.pointer (some ⟨gg, 1, none⟩))) rfl (by kernel_rfl) (by kernel_rfl) (by kernel_rfl) (fun _ _ _ h => h) (Or.inl ⟨by rfl, fun W hS => by go_simp⟩) hHeld ?_
          (try simp only [Act.put, List.setIfInBounds_toArray, List.set_cons_zero, List.set_cons_succ])
          refine wpAnyH_take (i := 6) (oi := ⟨some 21, _, _, _, _, _⟩) (v := (.string nm)) rfl (by kernel_rfl) (by kernel_rfl) (by kernel_rfl) (fun _ _ _ h => h) (Or.inl ⟨by rfl, fun W hS => by have d1 : W.cell? ⟨gg, 1, none⟩ = some (.string nm) := blk_cell (blk_below Bg2.out hS) 1; go_simp⟩) hHeld ?_
          (try simp only [Act.put, List.setIfInBounds_toArray, List.set_cons_zero, List.set_cons_succ])
          refine wpAnyH_ready (rs := [7]) (by kernel_rfl) (by simp) ?_
          refine AllReadyH.cons rfl (fun K hK => ?_) AllReadyH.nil
          rw [if_pos (by rfl)]
          go_simp
          refine (valid_any nm _ (by have := HZ.out; omega) (tabs_of (HW.out.trans ((HB2.out.trans (hHeld.mono (below_size HB2.out))).mono (below_size HW.out))) HT.out)).mono ?_
          rw [HV.out]
          rintro e w4 ⟨rfl, hb⟩
          dsimp only
          refine hK.out _ _ (below_step hHeld hb) (fun hH => ?_)
          clear hK K hHeld hb
          have hHeld := hH
          clear hH
          (try simp only [Act.put, List.setIfInBounds_toArray, List.set_cons_zero, List.set_cons_succ])
          refine wpAnyH_take (i := 8) (oi := ⟨some 23, _, _, _, _, _⟩) (v := (.bool false)) rfl (by kernel_rfl) (by kernel_rfl) (by kernel_rfl) (fun _ _ _ h => h) (Or.inl ⟨by rfl, fun W hS => by go_simp⟩) hHeld ?_
          (try simp only [Act.put, List.setIfInBounds_toArray, List.set_cons_zero, List.set_cons_succ])
          refine wpAnyH_take (i := 9) (oi := ⟨some 24, _, _, _, _, _⟩) (v := (.bool false)) rfl (by kernel_rfl) (by kernel_rfl) (by kernel_rfl) (fun _ _ _ h => h) (Or.inl ⟨by rfl, fun W hS => by go_simp⟩) hHeld ?_
          (try simp only [Act.put, List.setIfInBounds_toArray, List.set_cons_zero, List.set_cons_succ])
          refine wpAnyH_take (i := 10) (oi := ⟨some 25, _, _, _, _, _⟩) (v := (.bool false)) rfl (by kernel_rfl) (by kernel_rfl) (by kernel_rfl) (fun _ _ _ h => h) (Or.inl ⟨by rfl, fun W hS => by go_simp⟩) hHeld ?_
          (try simp only [Act.put, List.setIfInBounds_toArray, List.set_cons_zero, List.set_cons_succ])
          refine wpAnyH_take (i := 11) (oi := ⟨some 26, _, _, _, _, _⟩) (v := (.int .i64 (j : Int))) rfl (by kernel_rfl) (by kernel_rfl) (by kernel_rfl) (fun _ _ _ h => h) (Or.inl ⟨by rfl, fun W hS => by go_simp⟩) hHeld ?_
          (try simp only [Act.put, List.setIfInBounds_toArray, List.set_cons_zero, List.set_cons_succ])
          refine wpAnyH_take (i := 12) (oi := ⟨some 27, _, _, _, _, _⟩) (v := (.bool true)) rfl (by kernel_rfl) (by kernel_rfl) (by kernel_rfl) (fun _ _ _ h => h) (Or.inl ⟨by rfl, fun W hS => by go_simp; exact HJP.out⟩) hHeld ?_
          (try simp only [Act.put, List.setIfInBounds_toArray, List.set_cons_zero, List.set_cons_succ])
          refine wpAnyH_take (i := 13) (oi := ⟨some 28, _, _, _, _, _⟩) (v := (.bool true)) rfl (by kernel_rfl) (by kernel_rfl) (by kernel_rfl) (fun _ _ _ h => h) (Or.inl ⟨by rfl, fun W hS => by go_simp⟩) hHeld ?_
          (try simp only [Act.put, List.setIfInBounds_toArray, List.set_cons_zero, List.set_cons_succ])
          refine wpAnyH_take (i := 14) (oi := ⟨some 29, _, _, _, _, _⟩) (v := (.slice (some ad) l.length c)) rfl (by kernel_rfl) (by kernel_rfl) (by kernel_rfl) (fun _ _ _ h => h) (Or.inl ⟨by rfl, fun W hS => by go_simp⟩) hHeld ?_
          (try simp only [Act.put, List.setIfInBounds_toArray, List.set_cons_zero, List.set_cons_succ])
          refine wpAnyH_take (i := 15) (oi := ⟨some 30, _, _, _, _, _⟩) (v := (.int .i64 (j : Int))) rfl (by kernel_rfl) (by kernel_rfl) (by kernel_rfl) (fun _ _ _ h => h) (Or.inl ⟨by rfl, fun W hS => by go_simp⟩) hHeld ?_
          (try simp only [Act.put, List.setIfInBounds_toArray, List.set_cons_zero, List.set_cons_succ])
          refine wpAnyH_take (i := 16) (oi := ⟨some 31, _, _, _, _, _⟩) (v := (.int .i64 (i : Int))) rfl (by kernel_rfl) (by kernel_rfl) (by kernel_rfl) (fun _ _ _ h => h) (Or.inl ⟨by rfl, fun W hS => by go_simp⟩) hHeld ?_
          (try simp only [Act.put, List.setIfInBounds_toArray, List.set_cons_zero, List.set_cons_succ])
          refine wpAnyH_take (i := 17) (oi := ⟨some 32, _, _, _, _, _⟩) (v := (.pointer (some (ad.add (i * 2))))) rfl (by kernel_rfl) (by kernel_rfl) (by kernel_rfl) (fun _ _ _ h => h) (Or.inl ⟨by rfl, fun W hS => by go_simp⟩) hHeld ?_
          (try simp only [Act.put, List.setIfInBounds_toArray, List.set_cons_zero, List.set_cons_succ])
          refine wpAnyH_take (i := 18) (oi := ⟨some 33, _, _, _, _, _⟩) (v := (.pointer (some ⟨(ad.add (i * 2)).block, (ad.add (i * 2)).off + 1, none⟩))) rfl (by kernel_rfl) (by kernel_rfl) (by kernel_rfl) (fun _ _ _ h => h) (Or.inl ⟨by rfl, fun W hS => by go_simp⟩) hHeld ?_
          (try simp only [Act.put, List.setIfInBounds_toArray, List.set_cons_zero, List.set_cons_succ])
          refine wpAnyH_take (i := 19) (oi := ⟨some 34, _, _, _, _, _⟩) (v := (.string pn)) rfl (by kernel_rfl) (by kernel_rfl) (by kernel_rfl) (fun _ _ _ h => h) (Or.inl ⟨by rfl, fun W hS => by have pp3 := pw_cell_below hS pp2; go_simp⟩) hHeld ?_
          (try simp only [Act.put, List.setIfInBounds_toArray, List.set_cons_zero, List.set_cons_succ])
          refine wpAnyH_take (i := 20) (oi := ⟨some 35, _, _, _, _, _⟩) (v := (.pointer (some ⟨gg, 1, none⟩))) rfl (by kernel_rfl) (by kernel_rfl) (by kernel_rfl) (fun _ _ _ h => h) (Or.inl ⟨by rfl, fun W hS => by go_simp⟩) hHeld ?_
          (try simp only [Act.put, List.setIfInBounds_toArray, List.set_cons_zero, List.set_cons_succ])
          refine wpAnyH_take (i := 21) (oi := ⟨some 36, _, _, _, _, _⟩) (v := (.string nm)) rfl (by kernel_rfl) (by kernel_rfl) (by kernel_rfl) (fun _ _ _ h => h) (Or.inl ⟨by rfl, fun W hS => by have d1 : W.cell? ⟨gg, 1, none⟩ = some (.string nm) := blk_cell (blk_below Bg2.out hS) 1; go_simp⟩) hHeld ?_
          (try simp only [Act.put, List.setIfInBounds_toArray, List.set_cons_zero, List.set_cons_succ])
          refine wpAnyH_ready (rs := [22]) (by kernel_rfl) (by simp) ?_
          refine AllReadyH.cons rfl (fun K hK => ?_) AllReadyH.nil
          rw [if_pos (by rfl)]
          go_simp
          refine (compare_any pn nm _ HPZ.out HNZ.out).mono ?_
          rw [HC.out]
          rintro e w5 ⟨rfl, hb⟩
          dsimp only
          refine hK.out _ _ (below_step hHeld hb) (fun hH => ?_)
          clear hK K hHeld hb
          have hHeld := hH
          clear hH
          (try simp only [Act.put, List.setIfInBounds_toArray, List.set_cons_zero, List.set_cons_succ])
          refine wpAnyH_take (i := 23) (oi := ⟨some 38, _, _, _, _, _⟩) (v := (.bool true)) rfl (by kernel_rfl) (by kernel_rfl) (by kernel_rfl) (fun _ _ _ h => h) (Or.inl ⟨by rfl, fun W hS => by go_simp⟩) hHeld ?_
          (try simp only [Act.put, List.setIfInBounds_toArray, List.set_cons_zero, List.set_cons_succ])
          refine wpAnyH_take (i := 24) (oi := ⟨some 39, _, _, _, _, _⟩) (v := (.bool true)) rfl (by kernel_rfl) (by kernel_rfl) (by kernel_rfl) (fun _ _ _ h => h) (Or.inl ⟨by rfl, fun W hS => by go_simp⟩) hHeld ?_
          (try simp only [Act.put, List.setIfInBounds_toArray, List.set_cons_zero, List.set_cons_succ])
          refine wpAnyH_take (i := 25) (oi := ⟨some 40, _, _, _, _, _⟩) (v := (.bool true)) rfl (by kernel_rfl) (by kernel_rfl) (by kernel_rfl) (fun _ _ _ h => h) (Or.inl ⟨by rfl, fun W hS => by go_simp⟩) hHeld ?_
          (try simp only [Act.put, List.setIfInBounds_toArray, List.set_cons_zero, List.set_cons_succ])
          refine wpAnyH_done (by kernel_rfl) ?_ _
          have HF := Aside0.mk (HW.out.trans ((HB2.out.trans (hHeld.mono (below_size HB2.out))).mono (below_size HW.out)))
          clear hHeld HB2'
          (try simp only [Exit.then])
          go_wp2
          go_ret
          exact ⟨rfl, HF.out⟩
    · obtain rfl : j = l.length := by omega
      obtain rfl : M = true := by rw [← HMM.out]; exact (mayE_iff l).2 ⟨hl, HK.out⟩
      clear hlt hj
      go_wp2
      go_ret
      exact ⟨rfl, HW.out⟩
end Go.Proofs.YtcmcmkfoihlniaaDoor.EN
end

section
namespace Go.Proofs.YtcmcmkfoihlniaaDoor.EN
open Go Go.RowKit Go.Proofs.YtcmcmkfoihlniaaDoorX Go.Proofs.YtcmcmkfoihlniaaDoor.NM Go.Proofs.YtcmcmkfoihlniaaDoorW.PrintWords Go.Proofs.YtcmcmkfoihlniaaDoorW.PrintLast Go.Proofs.YtcmcmkfoihlniaaDoorW.PrintMore Go.Proofs.YtcmcmkfoihlniaaDoor.PModelUndoes
set_option linter.unusedVariables false
set_option linter.unusedSimpArgs false
theorem cellE_zero (a : Int) (s : ByteArray) : (cellsE a s)[0]? = some (.int .i64 a) := rfl
theorem cellE_one (a : Int) (s : ByteArray) : (cellsE a s)[1]? = some (.string s) := rfl
set_option maxHeartbeats 1000000 in
theorem behind_any (a : Int) (s nm : ByteArray) (g : Nat) (w : World) (hc : w.cell? ⟨g, 0, none⟩ = some (.string nm)) (hs : s.size ≤ 17592186044416) (hn : nm.size ≤ 17592186044416) :
    Calls Tryd.prog 73 #[.agg (cellsE a s), .pointer (some ⟨g, 0, none⟩)] w fun e w' => e = .returned (.bool (decide (0 ≤ NM.ahead s.data.toList nm.data.toList))) ∧ Below w.heap.size w w' := by
  obtain ⟨C, HC⟩ : ∃ b, Aside0 (NM.ahead s.data.toList nm.data.toList = b) := ⟨_, ⟨rfl⟩⟩
  rw [HC.out]
  have HS := Aside0.mk hs
  have HN := Aside0.mk hn
  clear hs hn
  go_enter Tryd.func73, Tryd.ntmps73
  go_wp2_with (first
    | ((with_reducible refine gate_dst (N := 2) rfl ?_); refine box_event ?hg (N := 2) ?hd (cs := cellsE a s) (t := 90) ?hr ?_; (case hd => rfl); (case hg => rfl); (case hr => first | (go_simp; done) | (go_simp; rfl) | kernel_rfl); intro gg hg w1 hbox hb; have HB1 := Aside0.mk hb; have d1 : w1.cell? ⟨gg, 1, none⟩ = some (.string s) := (blk_cell hbox 1).trans (cellE_one a s); have d0 : w1.cell? ⟨gg, 0, none⟩ = some (.int .i64 a) := (blk_cell hbox 0).trans (cellE_zero a s); have hc1 := pw_cell_below hb hc; clear hb hbox hg)
    | (go_at_call 74; refine (compare_any s nm _ HS.out HN.out).mono ?_; rw [HC.out]; rintro e w2 ⟨rfl, hb⟩; have HB2 := Aside0.mk (below_step HB1.out hb); clear hb))
  go_ret
  exact ⟨rfl, HB2.out⟩
def geAt (l : List S90) (nm : ByteArray) (i : Nat) : Bool := decide (0 ≤ NM.ahead (nameAt l i).data.toList nm.data.toList)
def atE (l : List S90) (nm : ByteArray) : Nat := ((List.range l.length).takeWhile fun i => !(geAt l nm i)).length
theorem takeWhile_range {n : Nat} {p : Nat → Bool} : ((List.range n).takeWhile p).length ≤ n ∧ (∀ i, i < ((List.range n).takeWhile p).length → p i = true) ∧ (((List.range n).takeWhile p).length < n → p ((List.range n).takeWhile p).length = false) := by
  have key : ∀ (m k : Nat), (((List.range' k m).takeWhile p).length ≤ m) ∧ (∀ i, i < ((List.range' k m).takeWhile p).length → p (k + i) = true) ∧ (((List.range' k m).takeWhile p).length < m → p (k + ((List.range' k m).takeWhile p).length) = false) := by
    intro m
    induction m with
    | zero => intro k; simp
    | succ m ih =>
      intro k
      rw [List.range'_succ, List.takeWhile_cons]
      obtain ⟨h1, h2, h3⟩ := ih (k + 1)
      by_cases hp : p k = true
      · rw [if_pos hp, List.length_cons]
        refine ⟨by omega, fun i hi => ?_, fun h => ?_⟩
        · match i with
          | 0 => exact hp
          | i + 1 => rw [show k + (i + 1) = k + 1 + i by omega]; exact h2 i (by omega)
        · rw [show k + (((List.range' (k + 1) m).takeWhile p).length + 1) = k + 1 + ((List.range' (k + 1) m).takeWhile p).length by omega]
          exact h3 (by omega)
      · rw [if_neg hp]
        exact ⟨by simp, fun i hi => absurd hi (by simp), fun _ => by simpa using hp⟩
  have := key n 0
  simpa [List.range_eq_range'] using this
theorem atE_le (l : List S90) (nm : ByteArray) : atE l nm ≤ l.length := takeWhile_range.1
theorem atE_lt {l : List S90} {nm : ByteArray} {i : Nat} (h : i < atE l nm) : geAt l nm i = false := by
  have := takeWhile_range.2.1 i h
  simpa using this
theorem atE_at {l : List S90} {nm : ByteArray} (h : atE l nm < l.length) : geAt l nm (atE l nm) = true := by
  have := takeWhile_range.2.2 h
  unfold atE
  simpa using this
theorem atE_is {l : List S90} {nm : ByteArray} {j : Nat} (hj : j ≤ l.length) (h1 : ∀ i, i < j → geAt l nm i = false) (h2 : j < l.length → geAt l nm j = true) : atE l nm = j := by
  rcases Nat.lt_trichotomy (atE l nm) j with h | h | h
  · have := h1 _ h
    rw [atE_at (by omega)] at this
    cases this
  · exact h
  · have := h2 (by have := atE_le l nm; omega)
    rw [atE_lt h] at this
    cases this
def ixE (l : List S90) (nm : ByteArray) : Int := if atE l nm < l.length then (atE l nm : Int) else -1
set_option maxHeartbeats 2000000 in
theorem index_any (A : Option Addr) (c : Nat) (l : List S90) (nm : ByteArray) (g : Nat) (w : World) (hr : Row w A l) (hlz : l.length ≤ 9223372036854775807) (hz : ∀ x ∈ l, x.f1.size ≤ 17592186044416) (hc : w.cell? ⟨g, 0, none⟩ = some (.string nm)) (hn : nm.size ≤ 17592186044416) :
    Calls Tryd.prog 72 #[.slice A l.length c, .func (.func 73) #[] #[.pointer (some ⟨g, 0, none⟩)]] w fun e w' => e = .returned (.int .i64 (ixE l nm)) ∧ Below w.heap.size w w' := by
  have hu42 := Aside0.mk Tryd.underlying90
  have HR := Aside0.mk hr
  have HZ := Aside0.mk hz
  have HC := Aside0.mk hc
  have HN := Aside0.mk hn
  obtain ⟨X, hX⟩ : ∃ X, ixE l nm = X := ⟨_, rfl⟩
  rw [hX]
  have HX := Aside0.mk hX
  clear hr hz hc hn hX
  go_enter Tryd.func72, Tryd.ntmps72
  go_wp2
  go_loopw [8] (fun i wr => ∃ j : Nat, j ≤ l.length ∧ i = .int .i64 j ∧ Aside0 (Below w.heap.size w wr) ∧ Aside0 (∀ k, k < j → geAt l nm k = false)) (fun i _ => l.length - (intOf i).toNat)
  case atStart => exact ⟨0, Nat.zero_le _, rfl, ⟨Below.refl _ _⟩, ⟨fun k hk => absurd hk (Nat.not_lt_zero _)⟩⟩
  case round =>
    obtain ⟨j, hj, rfl, HW, HK⟩ := hrel
    by_cases hlt : j < l.length
    · have hlt' : (j : Int) < (l.length : Int) := by omega
      have hj0 : (0 : Int) ≤ (j : Int) := Int.natCast_nonneg _
      have HJ := Aside0.mk hlt
      obtain ⟨ad, rfl, c0, c1⟩ := (HR.out.below HW.out).at_ hlt
      have HSZ := Aside0.mk (show (nameAt l j).size ≤ 17592186044416 from by
        unfold nameAt rd_T90
        rw [Int.toNat_natCast, List.getD_eq_getElem?_getD, List.getElem?_eq_getElem hlt]
        exact HZ.out _ (List.getElem_mem _))
      have hg : geAt l nm j = _ := rfl
      obtain ⟨ino, hino⟩ : ∃ x, inoAt l j = x := ⟨_, rfl⟩
      obtain ⟨G, hG⟩ : ∃ b, geAt l nm j = b := ⟨_, rfl⟩
      obtain ⟨s, hs⟩ : ∃ x, nameAt l j = x := ⟨_, rfl⟩
      have hG2 := hG
      unfold geAt at hG2
      rw [hino] at c0
      rw [hs] at c1 HSZ hG2
      have HG := Aside0.mk hG
      have HG2 := Aside0.mk hG2
      have HCW := Aside0.mk (pw_cell_below HW.out HC.out)
      clear hg hG hG2 hino hs hlt hj
      cases G with
      | true =>
        obtain rfl : X = (j : Int) := by
          rw [← HX.out]
          unfold ixE
          rw [atE_is (by have := HJ.out; omega) HK.out (fun _ => HG.out), if_pos HJ.out]
        go_wp2_with (first
          | ((with_reducible refine gate_dst (N := 15) rfl ?_); refine wpList_load_pair rfl 90 (.tmp 14) (by kernel_rfl) _ (by go_simp; rfl) _ _ _ c0 c1 hu42.out rfl (by kernel_rfl) ?_)
          | (go_at_call 73; refine (behind_any ino s nm g _ HCW.out HSZ.out HN.out).mono ?_; rw [HG2.out]; rintro e w1 ⟨rfl, hb⟩; have HB1 := Aside0.mk (HW.out.trans (hb.mono (below_size HW.out))); clear hb))
        go_ret
        exact ⟨rfl, HB1.out⟩
      | false =>
        go_wp2_with (first
          | ((with_reducible refine gate_dst (N := 15) rfl ?_); refine wpList_load_pair rfl 90 (.tmp 14) (by kernel_rfl) _ (by go_simp; rfl) _ _ _ c0 c1 hu42.out rfl (by kernel_rfl) ?_)
          | (go_at_call 73; refine (behind_any ino s nm g _ HCW.out HSZ.out HN.out).mono ?_; rw [HG2.out]; rintro e w1 ⟨rfl, hb⟩; have HB1 := Aside0.mk (HW.out.trans (hb.mono (below_size HW.out))); clear hb))
        go_roundw
        case rel => exact ⟨j + 1, HJ.out, by go_num, HB1, ⟨fun k hk => by
            by_cases h : k = j
            · rw [h]; exact HG.out
            · exact HK.out k (by omega)⟩⟩
        case measure => simp [intOf]; have := HJ.out; omega
    · obtain rfl : j = l.length := by omega
      obtain rfl : X = -1 := by
        rw [← HX.out]
        unfold ixE
        rw [atE_is (Nat.le_refl _) HK.out (fun h => absurd h (Nat.lt_irrefl _)), if_neg (Nat.lt_irrefl _)]
      clear hlt hj
      go_wp2
      go_ret
      exact ⟨rfl, HW.out⟩
def isE (l : List S90) (nm : ByteArray) : Bool := decide (atE l nm < l.length) && (nameAt l (atE l nm)).toList == nm.toList
set_option maxHeartbeats 2000000 in
set_option maxRecDepth 100000 in
theorem find_any (A : Option Addr) (c : Nat) (l : List S90) (nm : ByteArray) (w : World) (hr : Row w A l) (hlz : l.length ≤ 9223372036854775807) (hz : ∀ x ∈ l, x.f1.size ≤ 17592186044416) (hn : nm.size ≤ 17592186044416) :
    Calls Tryd.prog 58 #[.slice A l.length c, .string nm] w fun e w' => e = .returned (.tuple #[.int .i64 (atE l nm : Int), .bool (isE l nm)]) ∧ Below w.heap.size w w' := by
  have HR := Aside0.mk hr
  have HZ := Aside0.mk hz
  have HN := Aside0.mk hn
  have HL := Aside0.mk hlz
  by_cases hat : atE l nm < l.length
  · obtain ⟨J, hJ⟩ : ∃ J, atE l nm = J := ⟨_, rfl⟩
    have hx : ixE l nm = (J : Int) := by unfold ixE; rw [if_pos hat, hJ]
    have hi : isE l nm = ((nameAt l J).toList == nm.toList) := by unfold isE; rw [decide_eq_true hat, Bool.true_and, hJ]
    rw [hJ] at hat
    rw [hi, hJ]
    obtain ⟨s, hs⟩ : ∃ s, nameAt l J = s := ⟨_, rfl⟩
    obtain ⟨B, HE⟩ : ∃ b, Aside0 ((s.toList == nm.toList) = b) := ⟨_, ⟨rfl⟩⟩
    rw [hs, HE.out]
    have HX := Aside0.mk hx
    have HA := Aside0.mk hat
    have HS := Aside0.mk hs
    have j0 : (0 : Int) ≤ (J : Int) := Int.natCast_nonneg _
    have j1 : (J : Int) < (l.length : Int) := by omega
    have j2 : ¬ ((J : Int) < 0) := by omega
    clear hr hz hn hx hi hat hJ hs hlz
    go_enter Tryd.func58, Tryd.ntmps58
    go_wp2_with (first | ((with_reducible refine gate_dst (N := 3) rfl ?_); refine box_event ?hg (N := 3) ?hd (cs := #[.string nm]) (t := 9) ?hr ?_; (case hd => rfl); (case hg => rfl); (case hr => first | (go_simp; done) | (go_simp; rfl) | kernel_rfl); intro gg hg w1 hbox hb; have HB1 := Aside0.mk hb; have c0 : w1.cell? ⟨gg, 0, none⟩ = some (.string nm) := (blk_cell hbox 0).trans rfl; clear hb hbox hg) | (go_at_call 72; refine (index_any A c l nm gg _ (HR.out.below HB1.out) HL.out HZ.out c0 HN.out).mono ?_; rw [HX.out]; rintro e w2 ⟨rfl, hb⟩; have HB2 := Aside0.mk (below_step HB1.out hb); have CB := Aside0.mk (pw_cell_below hb c0); clear hb))
    obtain ⟨ad, rfl, _, cn⟩ := (HR.out.below HB2.out).at_ HA.out
    rw [HS.out] at cn
    have CN := Aside0.mk cn
    clear cn
    refine wp_region_held_drew (S := fun W => Below w2.heap.size w2 W) (by kernel_rfl) (below_drew (Below.refl w2.heap.size w2)) (fun hHeld => ?_)
    refine wpAnyH_take (i := 0) (oi := ⟨some 14, _, _, _, _, _⟩) (v := (.int .i64 (J : Int))) rfl (by kernel_rfl) (by kernel_rfl) (by kernel_rfl) (fun _ _ _ h => h) (Or.inl ⟨by rfl, fun W hS => by go_simp⟩) hHeld ?_
    (try simp only [Act.put, List.setIfInBounds_toArray, List.set_cons_zero, List.set_cons_succ])
    refine wpAnyH_take (i := 1) (oi := ⟨some 15, _, _, _, _, _⟩) (v := (.slice (some ad) l.length c)) rfl (by kernel_rfl) (by kernel_rfl) (by kernel_rfl) (fun _ _ _ h => h) (Or.inl ⟨by rfl, fun W hS => by go_simp⟩) hHeld ?_
    (try simp only [Act.put, List.setIfInBounds_toArray, List.set_cons_zero, List.set_cons_succ])
    refine wpAnyH_take (i := 2) (oi := ⟨some 16, _, _, _, _, _⟩) (v := (.int .i64 (J : Int))) rfl (by kernel_rfl) (by kernel_rfl) (by kernel_rfl) (fun _ _ _ h => h) (Or.inl ⟨by rfl, fun W hS => by go_simp⟩) hHeld ?_
    (try simp only [Act.put, List.setIfInBounds_toArray, List.set_cons_zero, List.set_cons_succ])
    refine wpAnyH_take (i := 3) (oi := ⟨some 17, _, _, _, _, _⟩) (v := (.pointer (some (ad.add (J * 2))))) rfl (by kernel_rfl) (by kernel_rfl) (by kernel_rfl) (fun _ _ _ h => h) (Or.inl ⟨by rfl, fun W hS => by go_simp⟩) hHeld ?_
    (try simp only [Act.put, List.setIfInBounds_toArray, List.set_cons_zero, List.set_cons_succ])
    refine wpAnyH_take (i := 4) (oi := ⟨some 18, _, _, _, _, _⟩) (v := (.pointer (some ⟨(ad.add (J * 2)).block, (ad.add (J * 2)).off + 1, none⟩))) rfl (by kernel_rfl) (by kernel_rfl) (by kernel_rfl) (fun _ _ _ h => h) (Or.inl ⟨by rfl, fun W hS => by go_simp⟩) hHeld ?_
    (try simp only [Act.put, List.setIfInBounds_toArray, List.set_cons_zero, List.set_cons_succ])
    refine wpAnyH_take (i := 5) (oi := ⟨some 19, _, _, _, _, _⟩) (v := (.string s)) rfl (by kernel_rfl) (by kernel_rfl) (by kernel_rfl) (fun _ _ _ h => h) (Or.inl ⟨by rfl, fun W hS => by have cc := pw_cell_below hS CN.out; go_simp⟩) hHeld ?_
    (try simp only [Act.put, List.setIfInBounds_toArray, List.set_cons_zero, List.set_cons_succ])
    refine wpAnyH_take (i := 6) (oi := ⟨some 20, _, _, _, _, _⟩) (v := (.string nm)) rfl (by kernel_rfl) (by kernel_rfl) (by kernel_rfl) (fun _ _ _ h => h) (Or.inl ⟨by rfl, fun W hS => by have cc := pw_cell_below hS CB.out; go_simp⟩) hHeld ?_
    (try simp only [Act.put, List.setIfInBounds_toArray, List.set_cons_zero, List.set_cons_succ])
    refine wpAnyH_take (i := 7) (oi := ⟨some 21, _, _, _, _, _⟩) (v := (.bool B)) rfl (by kernel_rfl) (by kernel_rfl) (by kernel_rfl) (fun _ _ _ h => h) (Or.inl ⟨by rfl, fun W hS => by go_simp; exact HE.out⟩) hHeld ?_
    (try simp only [Act.put, List.setIfInBounds_toArray, List.set_cons_zero, List.set_cons_succ])
    refine wpAnyH_take (i := 8) (oi := ⟨some 4, _, _, _, _, _⟩) (v := (.int .i64 (J : Int))) rfl (by kernel_rfl) (by kernel_rfl) (by kernel_rfl) (fun _ _ _ h => h) (Or.inl ⟨by rfl, fun W hS => by go_simp⟩) hHeld ?_
    (try simp only [Act.put, List.setIfInBounds_toArray, List.set_cons_zero, List.set_cons_succ])
    refine wpAnyH_take (i := 9) (oi := ⟨some 5, _, _, _, _, _⟩) (v := (.bool B)) rfl (by kernel_rfl) (by kernel_rfl) (by kernel_rfl) (fun _ _ _ h => h) (Or.inl ⟨by rfl, fun W hS => by go_simp⟩) hHeld ?_
    (try simp only [Act.put, List.setIfInBounds_toArray, List.set_cons_zero, List.set_cons_succ])
    refine wpAnyH_done (by kernel_rfl) ?_ _
    have HF := Aside0.mk (below_step HB2.out hHeld)
    clear hHeld
    (try simp only [Exit.then])
    go_wp2
    go_ret2
    exact ⟨rfl, HF.out⟩
  · have hx : ixE l nm = -1 := by unfold ixE; rw [if_neg hat]
    have hi : isE l nm = false := by unfold isE; rw [decide_eq_false hat, Bool.false_and]
    have ha : atE l nm = l.length := by have := atE_le l nm; omega
    rw [hi, ha]
    have HX := Aside0.mk hx
    clear hr hz hn hx hi hat ha hlz
    go_enter Tryd.func58, Tryd.ntmps58
    go_wp2_with (first | ((with_reducible refine gate_dst (N := 3) rfl ?_); refine box_event ?hg (N := 3) ?hd (cs := #[.string nm]) (t := 9) ?hr ?_; (case hd => rfl); (case hg => rfl); (case hr => first | (go_simp; done) | (go_simp; rfl) | kernel_rfl); intro gg hg w1 hbox hb; have HB1 := Aside0.mk hb; have c0 : w1.cell? ⟨gg, 0, none⟩ = some (.string nm) := (blk_cell hbox 0).trans rfl; clear hb hbox hg) | (go_at_call 72; refine (index_any A c l nm gg _ (HR.out.below HB1.out) HL.out HZ.out c0 HN.out).mono ?_; rw [HX.out]; rintro e w2 ⟨rfl, hb⟩; have HB2 := Aside0.mk (below_step HB1.out hb); have CB := Aside0.mk (pw_cell_below hb c0); clear hb))
    go_ret2
    exact ⟨rfl, HB2.out⟩
end Go.Proofs.YtcmcmkfoihlniaaDoor.EN
end
