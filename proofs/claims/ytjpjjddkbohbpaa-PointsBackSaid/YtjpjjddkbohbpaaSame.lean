/- hayrickref13.Same of two rows that hold the same. -/
import Derived.Test.YtjpjjddkbohbpaaUni
namespace Go.Proofs.YtjpjjddkbohbpaaX
open Go.RowKit Go.Proofs.YtjpjjddkbohbpaaW.PrintWords Go.Proofs.Ytjpjjddkbohbpaa.PPointsFiles
set_option linter.unusedVariables false
theorem same_run (l : List Int) (hl : l.length ≤ 9223372036854775806) : ∀ (d j : Nat), j + d = l.length → hayrickref13_Same.l0 (d + 1) l l (j : Int) = some true
  | 0, j, h => by rw [hayrickref13_Same.l0, if_neg (by omega)]
  | d + 1, j, h => by
    rw [hayrickref13_Same.l0, if_pos (by omega), if_pos (by omega), if_pos (by omega), if_pos rfl, w64 (n := (j : Int) + 1) (by omega)]
    have := same_run l hl d (j + 1) (by omega)
    rw [Int.natCast_add] at this
    exact this
theorem same_f (l : List Int) (hl : l.length ≤ 9223372036854775806) : hayrickref13_Same.f (l.length + 1) l l = some true := by
  unfold hayrickref13_Same.f
  rw [if_pos rfl]
  exact same_run l hl l.length 0 (by omega)
theorem same_any (A0 A1 : Option Addr) (n c0 c1 : Nat) (l : List Int) (w : World) (hr0 : ReadsInt w .u32 A0 n l) (hr1 : ReadsInt w .u32 A1 n l) (h0 : n ≤ c0) (h1 : n ≤ c1) (hn : n ≤ 9223372036854775806) :
    Calls Try.prog 16 #[.slice A0 n c0, .slice A1 n c1] w fun e w' => e = .returned (.bool true) ∧ Drawn0 w w' := by
  have hl : l.length = n := hr0.1
  subst hl
  exact hayrickref13_Same.calls (l.length + 1) A0 c0 l A1 c1 l true w (Kd.C_of_reads (enc := Value.int .u32) (d := (0 : Int)) (h1 := fun _ => rfl) hr0) h0 (Kd.C_of_reads (enc := Value.int .u32) (d := (0 : Int)) (h1 := fun _ => rfl) hr1) h1 (same_f l hn)
end Go.Proofs.YtjpjjddkbohbpaaX
