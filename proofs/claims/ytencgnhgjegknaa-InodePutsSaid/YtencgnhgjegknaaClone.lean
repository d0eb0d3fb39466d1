/- slices.Clone of numbers: a new row that holds the same. -/
import Derived.Test.YtencgnhgjegknaaWWords
import Derived.Test.YtencgnhgjegknaaProg
import Derived.WalkSpells
import Derived.Lib.LazyBuf
namespace Go.Proofs.YtencgnhgjegknaaX
open Go.RowKit Go.Proofs.YtencgnhgjegknaaW.PrintWords
set_option linter.unusedVariables false
theorem infoU32 : (Try.prog.info? 22).map (fun i => (i.zero, i.size, i.bytes)) = some (some (.int .u32 0), 1, 4) := by kernel_rfl
theorem own_empty (W : World) (base : Nat) (e : TypeId) (hb : base ≤ W.heap.size) : (W.alloc (.cells #[] e)).ownsRow base e 1 (.slice (some ⟨W.heap.size, 0, none⟩) 0 0) 0 [] := by
  have h := World.ownsRow_lit (base := base) (e := e) (size := 1) W #[] 0 hb (by simp [maxLen]) (by simp)
  simpa using h
set_option maxHeartbeats 1000000 in
theorem clone_any (A : Option Addr) (n c : Nat) (l : List Int) (w : World) (hr : ReadsInt w .u32 A n l) (hn : n * 4 ≤ 140737488355328) (hnil : A = none → n = 0 ∧ c = 0) :
    Calls Try.prog 21 #[.slice A n c] w fun e w' => ∃ v, e = .returned v ∧ w'.ownsRow w.heap.size 22 1 v n (nums .u32 l) ∧ Below w.heap.size w w' := by
  have HR := Aside0.mk hr
  have hl : l.length = n := hr.1
  have HL := Aside0.mk hl
  clear hr hl
  cases A with
  | none =>
    obtain ⟨rfl, rfl⟩ := hnil rfl
    have hl : l = [] := List.eq_nil_of_length_eq_zero HL.out
    subst hl
    have e1 := fun W : World => Lib.run_eql_slice_nil (P := Try.prog) W 32 22 none 0 0 0 0 Try.underlying32
    go_enter Try.func21, Try.ntmps21
    go_wp2
    go_ret
    exact ⟨_, rfl, own_nil _ _ _ _, Below.refl _ _⟩
  | some ad =>
    have e1 := fun W : World => Lib.run_eql_slice_nil (P := Try.prog) W 32 22 (some ad) n c 0 0 Try.underlying32
    have HN := Aside0.mk hn
    clear hnil hn
    go_enter Try.func21, Try.ntmps21
    go_wp2_with (at_builtin; with_reducible refine gate_dst (N := 7) rfl ?_; refine print_append_row (w0 := w) w.heap.size rfl (.tmp 5) (.tmp 6) 32 22 .u32 4 rfl Try.underlying32 infoU32 (by omega) (.slice (some ⟨w.heap.size, 0, none⟩) 0 0) [] l (some ad) n c rfl rfl (own_empty w _ _ (Nat.le_refl _)) (HR.out.below (below_alloc (Below.refl _ _) _)) (below_alloc (Below.refl _ _) _) (by simp) (by have := HN.out; simp; omega) ?_; intro v1 w1 ho hb _ _; have HO := Aside0.mk ho; have HB := Aside0.mk hb; clear ho hb)
    go_ret
    exact ⟨_, rfl, by have := HO.out; rw [List.nil_append, HL.out] at this; exact this, HB.out⟩
end Go.Proofs.YtencgnhgjegknaaX
