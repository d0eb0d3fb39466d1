/- hayricklaw15.wakes: the chapter's rows. -/
import Derived.Test.YtgiapegacbibeaaULive
import Derived.Test.YtgiapegacbibeaaUShelf
namespace Go.Proofs.Ytgiapegacbibeaa.UM
open Go.RowKit Go.Proofs.YtgiapegacbibeaaX Go.Proofs.YtgiapegacbibeaaW.PrintWords Go.Proofs.Ytgiapegacbibeaa.PUsageLives
set_option linter.unusedVariables false
theorem BS.mono {W : World} {B B' : Nat} {SA : Option Addr} {cs : Nat} {bl : List (List Int)} (h : BS W B SA cs bl) (hB : B ≤ B') : BS W B' SA cs bl := Kd.V_mono h (fun k hk => Nat.lt_of_lt_of_le hk hB)
/-- usage.Live over the law's reader. -/
theorem live_read (w : World) (K N S : Int) (n : Nat) (hSn : S = n) (mm : List Int) (SA : Option Addr) (cs m : Nat) (bl : List (List Int)) (hm : bl.length = m) (hB : BS w w.heap.size SA cs bl) (hK : 1 ≤ K ∧ K ≤ 255) (hS : 1 ≤ S ∧ S ≤ 128) (hml : mm.length = 64) (hmr : ∀ x ∈ mm, 0 ≤ x ∧ x < 4294967296)
    (hlb : bl.length ≤ 9223372036854775807) (hz : ∀ b ∈ bl, b.length ≤ 140737488355328) (hy : ∀ b ∈ bl, ∀ x ∈ b, 0 ≤ x ∧ x < 256) (R : Int × List Int × List Int) (hR : liveN K n bl mm 0 [] (List.replicate n 0) = R) :
    Calls Try.prog 13 #[.agg #[.int .i64 K, .int .i64 N, .int .i64 S], .agg (nums .u32 mm).toArray, .func (.func 14) #[.agg #[.slice SA m cs]] #[]] w (LivePost w R) := by
  subst hSn hm
  refine live_func K N n mm _ _ _ w R bl hK hS hml hmr hR (fun W gl gm gv l v ino a hb hL h1 h2 hi ha hl _ _ => ?_)
  exact ino_any W gl gm gv n K N n l v w.heap.size SA cs bl ino a ⟨hL, hB.below hb, h1, h2, hK, hS, rfl, hi, ha, hlb, hz, hy, hl⟩
/-- One block on a shelf: the list that is handed in. -/
theorem one_at (W : World) (g : Nat) (a : Int) (A : Option Addr) (c : Nat) (b : List Int) (hg : W.heap[g]? = some (.cells #[.int .u32 a, .slice A b.length c] 62 (0, 0))) (hl : b.length ≤ c) (hb : ReadsInt W .u8 A b.length b) :
    Kd.V k62 62 W W.heap.size (fun k => k < W.heap.size) (.slice (some ⟨g, 0, none⟩) [(⟨a, b⟩ : S62)].length 1) [⟨a, b⟩] := by
  refine Kd.V_mk (Nat.le_refl _) (Kd.C_F (Kd.heap_iso _ (Kd.heap_pair (Kd.heap_int _) (Kd.heap_slice _ (Kd.heap_int _)))) ⟨rfl, by simp, fun _ => ⟨_, rfl, fun j p hj => ?_⟩⟩)
  match j, hj with
  | 0, hj =>
    obtain rfl : (⟨a, b⟩ : S62) = p := Option.some.inj hj
    refine ⟨_, rfl, k62_mk W ⟨a, b⟩ hl (Kd.C_of_reads (enc := Value.int .u8) (d := (0 : Int)) (h1 := fun _ => rfl) hb), fun i u hu => ?_⟩
    have hadd : (⟨g, 0, none⟩ : Addr).add (0 * k62.sz + i) = ⟨g, i, none⟩ := by unfold Addr.add; split <;> simp_all
    rw [hadd, blk_cell hg]
    simpa using hu
def wB : List Int := encI 1 1 200 1 12 21 0 0 0 0 0
def wC : List Int := encI 1 1 200 1 12 9 0 0 0 0 0
def shelfOf (b : List Int) : List (List Int) := [[], [], [], [], [], [], [], [], [], [], b]
theorem shelf_B : hayricklaw15_shelf.f 20 [⟨11, wB⟩] = some (shelfOf wB) := by kernel_rfl
theorem shelf_C : hayricklaw15_shelf.f 20 [⟨11, wC⟩] = some (shelfOf wC) := by kernel_rfl
def mW : List Int := 11 :: List.replicate 63 0
theorem live_B : liveN 2 (16 : Nat) (shelfOf wB) mW 0 [] (List.replicate 16 0) = (0, [21, 12, 11], [0, 2, 1, 0, 0, 0, 0, 0, 0, 0, 0, 0, 0, 0, 0, 0]) := by decide +kernel
theorem live_C : (liveN 2 (16 : Nat) (shelfOf wC) mW 0 [] (List.replicate 16 0)).1 = 5 := by decide +kernel
def vB : List Int := [0, 2, 1, 0, 0, 0, 0, 0, 0, 0, 0, 0, 0, 0, 0, 0]
theorem wB_range : ∀ x ∈ wB, 0 ≤ x ∧ x < 256 := by decide +kernel
theorem wC_range : ∀ x ∈ wC, 0 ≤ x ∧ x < 256 := by decide +kernel
theorem mW_range : ∀ x ∈ mW, 0 ≤ x ∧ x < 4294967296 := by decide +kernel
theorem shelfOf_all {P : List Int → Prop} {b : List Int} (h0 : P []) (h : P b) : ∀ x ∈ shelfOf b, P x := by
  intro x hx
  simp only [shelfOf, List.mem_cons, List.not_mem_nil, or_false] at hx
  rcases hx with rfl | rfl | rfl | rfl | rfl | rfl | rfl | rfl | rfl | rfl | rfl
  all_goals first | exact h0 | exact h
theorem addr_W : usage_Address.f 2 3 16 1 2 = some (11, 0) := by decide +kernel
theorem place_W : usage_Place.f 2 3 16 128 = some (15, 7, 0) := by decide +kernel
theorem free_W : usage_Free.f 10 [0, 2, 0] = some [0, 2] := by decide +kernel
theorem live_post {w w' : World} {R : Int × List Int × List Int} {e : Ending} {x : Int} {V : List Int} (h : LivePost w R e w') (h1 : R.1 = x) (h2 : (if x = 0 then R.2.2 else []) = V) : ∃ A m c, e = .returned (.tuple #[.slice A m c, .int .i64 x]) ∧ ReadsInt w' .i64 A m V ∧ m ≤ c ∧ Below w.heap.size w w' := by
  subst h1 h2
  exact h
theorem live_Bw (w : World) (SA : Option Addr) (cs : Nat) (hB : BS w w.heap.size SA cs (shelfOf wB)) :
    Calls Try.prog 13 #[.agg #[.int .i64 2, .int .i64 3, .int .i64 16], .agg (nums .u32 mW).toArray, .func (.func 14) #[.agg #[.slice SA (shelfOf wB).length cs]] #[]] w fun e w' => ∃ A m c, e = .returned (.tuple #[.slice A m c, .int .i64 0]) ∧ ReadsInt w' .i64 A m vB ∧ m ≤ c ∧ Below w.heap.size w w' :=
  (live_read w 2 3 16 16 rfl mW SA cs _ (shelfOf wB) rfl hB (by decide) (by decide) rfl mW_range (by decide) (shelfOf_all (P := fun b => b.length ≤ 140737488355328) (Nat.zero_le _) (by decide +kernel)) (shelfOf_all (P := fun b => ∀ x ∈ b, 0 ≤ x ∧ x < 256) (by simp) wB_range) _ rfl).mono fun e w' h => live_post h (congrArg Prod.fst live_B) (by rw [if_pos rfl]; exact congrArg (fun p => p.2.2) live_B)
theorem live_Cw (w : World) (SA : Option Addr) (cs : Nat) (hB : BS w w.heap.size SA cs (shelfOf wC)) :
    Calls Try.prog 13 #[.agg #[.int .i64 2, .int .i64 3, .int .i64 16], .agg (nums .u32 mW).toArray, .func (.func 14) #[.agg #[.slice SA (shelfOf wC).length cs]] #[]] w fun e w' => ∃ A m c, e = .returned (.tuple #[.slice A m c, .int .i64 5]) ∧ ReadsInt w' .i64 A m [] ∧ m ≤ c ∧ Below w.heap.size w w' :=
  (live_read w 2 3 16 16 rfl mW SA cs _ (shelfOf wC) rfl hB (by decide) (by decide) rfl mW_range (by decide) (shelfOf_all (P := fun b => b.length ≤ 140737488355328) (Nat.zero_le _) (by decide +kernel)) (shelfOf_all (P := fun b => ∀ x ∈ b, 0 ≤ x ∧ x < 256) (by simp) wC_range) _ rfl).mono fun e w' h => live_post h live_C (by rw [if_neg (by decide)])
end Go.Proofs.Ytgiapegacbibeaa.UM
