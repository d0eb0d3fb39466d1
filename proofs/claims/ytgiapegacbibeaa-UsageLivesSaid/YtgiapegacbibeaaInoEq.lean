/- '==' and '!=' of two api.Inode. -/
import Derived.Test.YtgiapegacbibeaaMMay
import Derived.Test.YtgiapegacbibeaaWEqStruct
import Derived.ChangeKeysEq
import Derived.Laws.StructEq
import Derived.WalkKit
namespace Go.Proofs.YtgiapegacbibeaaX
open Go.RowKit Go.Proofs.YtgiapegacbibeaaW.PrintWords
set_option linter.unusedVariables false
theorem cells1uE : Try.prog.cellsOf 24 = 1 := by kernel_rfl
theorem infoU32E : ∃ i, Try.prog.info? 24 = some i := Option.isSome_iff_exists.1 (show (Try.prog.info? 24).isSome = true by kernel_rfl)
abbrev dirCells (d0 d1 d2 d3 d4 d5 : Int) : Array Value := #[.int .u32 d0, .int .u32 d1, .int .u32 d2, .int .u32 d3, .int .u32 d4, .int .u32 d5]
abbrev dirB (d0 d1 d2 d3 d4 d5 e0 e1 e2 e3 e4 e5 : Int) : Bool := d0 == e0 && (d1 == e1 && (d2 == e2 && (d3 == e3 && (d4 == e4 && d5 == e5))))
abbrev inoB (a k s l d0 d1 d2 d3 d4 d5 p a' k' s' l' e0 e1 e2 e3 e4 e5 p' : Int) : Bool := a == a' && (k == k' && (s == s' && (l == l' && (dirB d0 d1 d2 d3 d4 d5 e0 e1 e2 e3 e4 e5 && p == p'))))
theorem item_u {d c i : Nat} {xs ys : Array Value} {is : List Nat} {x y : Int} {s : Bool} {w : World} (hx : xs[i * c]? = some (.int .u32 x)) (hy : ys[i * c]? = some (.int .u32 y))
    (hr : (Op.eqItems (d + 1) 24 c xs ys is).run Try.prog w = .ok s w) : (Op.eqItems (d + 1) 24 c xs ys (i :: is)).run Try.prog w = .ok ((x == y) && s) w := by
  have hp : Try.prog.plainKey 24 = true := by kernel_rfl
  have p1 := run_part_plain (P := Try.prog) w hp hx
  have p2 := run_part_plain (P := Try.prog) w hp hy
  have p3 := run_equalIn_int (P := Try.prog) w d 24 .u32 .u32 x y Try.underlying24
  simp only [Op.eqItems, Sem.run_bind, p1, p2, p3, Result.andThen_ok]
  cases hxy : (x == y)
  · simp
  · simpa using hr
theorem dir_eq (d : Nat) (w : World) (d0 d1 d2 d3 d4 d5 e0 e1 e2 e3 e4 e5 : Int) :
    (Op.equalIn (d + 2) 55 (.agg (dirCells d0 d1 d2 d3 d4 d5)) (.agg (dirCells e0 e1 e2 e3 e4 e5))).run Try.prog w = .ok (dirB d0 d1 d2 d3 d4 d5 e0 e1 e2 e3 e4 e5) w := by
  obtain ⟨i, hi⟩ := infoU32E
  rw [run_equalIn_array (P := Try.prog) w (d + 1) _ _ Try.underlying55 hi, cells1uE, show List.range 6 = [0, 1, 2, 3, 4, 5] from rfl]
  have hnil : (Op.eqItems (d + 1) 24 1 (dirCells d0 d1 d2 d3 d4 d5) (dirCells e0 e1 e2 e3 e4 e5) []).run Try.prog w = .ok true w := by simp [Op.eqItems]
  have h := item_u (i := 0) rfl rfl (item_u (i := 1) rfl rfl (item_u (i := 2) rfl rfl (item_u (i := 3) rfl rfl (item_u (i := 4) rfl rfl (item_u (i := 5) rfl rfl hnil)))))
  rw [Bool.and_true] at h
  exact h
theorem ino_eqIn (d : Nat) (w : World) (a k s l d0 d1 d2 d3 d4 d5 p a' k' s' l' e0 e1 e2 e3 e4 e5 p' : Int) :
    (Op.equalIn (d + 3) 57 (.agg (inoCells a k s l d0 d1 d2 d3 d4 d5 p)) (.agg (inoCells a' k' s' l' e0 e1 e2 e3 e4 e5 p'))).run Try.prog w = .ok (inoB a k s l d0 d1 d2 d3 d4 d5 p a' k' s' l' e0 e1 e2 e3 e4 e5 p') w := by
  refine eqA_of Try.underlying57 (by kernel_rfl) ?_
  refine eqf_cons (by rfl) (by go_simp; rfl) (by go_simp; rfl) (by go_simp) ?_
  refine eqf_cons (by rfl) (by go_simp; rfl) (by go_simp; rfl) (by go_simp) ?_
  refine eqf_cons (by rfl) (by go_simp; rfl) (by go_simp; rfl) (by go_simp) ?_
  refine eqf_cons (by rfl) (by go_simp; rfl) (by go_simp; rfl) (by go_simp) ?_
  refine eqf_cons (by rfl) (by go_simp) (by go_simp) (dir_eq d w d0 d1 d2 d3 d4 d5 e0 e1 e2 e3 e4 e5) ?_
  exact eqf_last (by rfl) (by go_simp; rfl) (by go_simp; rfl) (by go_simp)
theorem ino_eql (w : World) (a k s l d0 d1 d2 d3 d4 d5 p a' k' s' l' e0 e1 e2 e3 e4 e5 p' : Int) :
    (binOp .eql 57 (.agg (inoCells a k s l d0 d1 d2 d3 d4 d5 p)) (.agg (inoCells a' k' s' l' e0 e1 e2 e3 e4 e5 p'))).run Try.prog w = .ok (.bool (inoB a k s l d0 d1 d2 d3 d4 d5 p a' k' s' l' e0 e1 e2 e3 e4 e5 p')) w := by
  rw [run_eql_struct, ino_eqIn 9997]; rfl
theorem ino_neq (w : World) (a k s l d0 d1 d2 d3 d4 d5 p a' k' s' l' e0 e1 e2 e3 e4 e5 p' : Int) :
    (binOp .neq 57 (.agg (inoCells a k s l d0 d1 d2 d3 d4 d5 p)) (.agg (inoCells a' k' s' l' e0 e1 e2 e3 e4 e5 p'))).run Try.prog w = .ok (.bool (!inoB a k s l d0 d1 d2 d3 d4 d5 p a' k' s' l' e0 e1 e2 e3 e4 e5 p')) w := by
  rw [run_neq_struct, ino_eqIn 9997]; rfl
theorem inoB_self (a k s l d0 d1 d2 d3 d4 d5 p : Int) : inoB a k s l d0 d1 d2 d3 d4 d5 p a k s l d0 d1 d2 d3 d4 d5 p = true := by
  simp [inoB, dirB]
end Go.Proofs.YtgiapegacbibeaaX
