/- PointsCut: the law. -/
import Derived.Test.YtjpjjddkbohbpaaCutWalk
import Derived.Test.YtjpjjddkbohbpaaWakes
namespace Go.Proofs.YtjpjjddkbohbpaaX
open Go.RowKit Go.Proofs.YtjpjjddkbohbpaaW.PrintWords Go.Proofs.Ytjpjjddkbohbpaa.PPointsCut
theorem cut_law (off n : Int) (w : World) (h0 : -9223372036854775808 ≤ off ∧ off ≤ 9223372036854775807) (h1 : -9223372036854775808 ≤ n ∧ n ≤ 9223372036854775807) :
    Calls Try.prog 3 #[.int .i64 off, .int .i64 n] w fun e w' => e = .returned (.bool true) ∧ Below w.heap.size w w' := by
  obtain ⟨k, LP, e, hp, hr⟩ := cut_both off n h0 h1
  exact cut_walk wakes_true off n k LP e w hp hr
end Go.Proofs.YtjpjjddkbohbpaaX
