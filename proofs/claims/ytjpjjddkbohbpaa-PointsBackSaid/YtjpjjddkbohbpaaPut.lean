/- points.Put: numbers as a block. -/
import Derived.Test.YtjpjjddkbohbpaaWMore
import Derived.Test.YtjpjjddkbohbpaaEv
import Derived.Test.YtjpjjddkbohbpaaClone
import Derived.Laws.MakeOwn
import Derived.Deep.OwnRows
namespace Go.Proofs.YtjpjjddkbohbpaaX
open Go.RowKit Go.Proofs.YtjpjjddkbohbpaaW.PrintWords
set_option linter.unusedVariables false
def bytes4 (n : Int) : List Int := [n / 16777216 % 256, n / 65536 % 256, n / 256 % 256, n % 256]
/-- The block behind k numbers. -/
def putN (l : List Int) (k : Nat) : List Int := (l.take k).flatMap bytes4 ++ List.replicate (112 - 4 * k) 0
theorem flat_length (l : List Int) : (l.flatMap bytes4).length = 4 * l.length := by
  induction l with
  | nil => rfl
  | cons x l ih => simp only [List.flatMap_cons, List.length_append, ih, bytes4, List.length_cons, List.length_nil]; omega
theorem putN_length {l : List Int} {k : Nat} (h : k ≤ l.length) (h28 : k ≤ 28) : (putN l k).length = 112 := by
  simp only [putN, List.length_append, flat_length, List.length_take, List.length_replicate]; omega
theorem putN_step {l : List Int} {k : Nat} (h : k < l.length) (h28 : k < 28) :
    (putN l k).take (4 * k) ++ bytes4 (l.getD k 0) ++ (putN l k).drop (4 * k + 4) = putN l (k + 1) := by
  have hl : ((l.take k).flatMap bytes4).length = 4 * k := by rw [flat_length, List.length_take]; omega
  have e1 : (putN l k).take (4 * k) = (l.take k).flatMap bytes4 := by
    unfold putN; rw [List.take_append_of_le_length (by omega), List.take_of_length_le (by omega)]
  have e2 : (putN l k).drop (4 * k + 4) = List.replicate (112 - 4 * (k + 1)) 0 := by
    unfold putN
    rw [List.drop_append, List.drop_of_length_le (by omega), hl, List.nil_append, List.drop_replicate]
    congr 1; omega
  have e3 : l.take (k + 1) = l.take k ++ [l.getD k 0] := by
    rw [List.take_succ_eq_append_getElem h, List.getD_eq_getElem?_getD, List.getElem?_eq_getElem h]; rfl
  rw [e1, e2]
  unfold putN
  rw [e3, List.flatMap_append]
  simp
theorem nums_step {l : List Int} {k : Nat} (h : k < l.length) (h28 : k < 28) :
    (nums .u8 (putN l k)).take (4 * k) ++ nums .u8 (bytes4 (l.getD k 0)) ++ (nums .u8 (putN l k)).drop (4 * k + 4) = nums .u8 (putN l (k + 1)) := by
  rw [← putN_step h h28, nums_append, nums_append]
  simp [nums, List.map_take, List.map_drop]
set_option maxHeartbeats 1000000 in
theorem put_long (A : Option Addr) (n c : Nat) (w : World) (hn : 28 < n) (hm : n ≤ 9223372036854775807) :
    Calls Try.prog 19 #[.slice A n c] w fun e w' => e = .returned (.tuple #[.slice none 0 0, .int .i64 3]) ∧ w = w' := by
  go_enter Try.func19, Try.ntmps19
  go_wp2
  go_ret2
  exact ⟨rfl, rfl⟩
theorem infoU8 : (Try.prog.info? 5).map (fun i => (i.zero, i.size, i.bytes)) = some (some (.int .u8 0), 1, 1) := by kernel_rfl
theorem sizeU8 : (Try.prog.info? 5).map (·.size) = some 1 := by kernel_rfl
set_option maxHeartbeats 2000000 in
set_option maxRecDepth 100000 in
theorem put_any (A : Option Addr) (n c : Nat) (l : List Int) (w : World) (hr : ReadsInt w .u32 A n l) (hn : n ≤ 28) :
    Calls Try.prog 19 #[.slice A n c] w fun e w' => ∃ v, e = .returned (.tuple #[v, .int .i64 0]) ∧ w'.ownsRow w.heap.size 5 1 v 112 (nums .u8 (putN l n)) ∧ Below w.heap.size w w' := by
  have HR := Aside0.mk hr
  have HL := Aside0.mk hr.1
  clear hr
  go_enter Try.func19, Try.ntmps19
  go_wp2_with ((with_reducible refine gate_dst (N := 10) rfl ?_); refine ev_make rfl (.const (.int .i64 0)) (.const (.int .i64 112)) 53 5 .u8 1 rfl Try.underlying53 infoU8 0 112 .i64 .i64 0 112 rfl rfl rfl rfl (by omega) (by omega) (by omega) ?_; intro gb hg w1 hbox hb; have HB1 := Aside0.mk hb; have BK1 := Aside0.mk (show w1.heap[gb]? = some (.cells (nums .u8 (putN l 0)).toArray 5 (0, 0)) from hbox); have GE := Aside0.mk (Nat.le_of_eq hg.symm); clear hb hbox hg)
  go_loopw [4, 13] (fun v i wr => ∃ k : Nat, k ≤ n ∧ i = .int .i64 k ∧ v = .slice (some ⟨gb, 0, none⟩) (4 * k) 112 ∧ Aside0 (wr.heap[gb]? = some (.cells (nums .u8 (putN l k)).toArray 5 (0, 0))) ∧ Aside0 (Below w.heap.size w wr)) (fun _ i _ => n - (intOf i).toNat)
  case atStart => exact ⟨0, Nat.zero_le _, rfl, rfl, BK1, HB1⟩
  case round =>
    obtain ⟨k, hk, rfl, rfl, BK, HB⟩ := hrel
    clear BK1 HB1
    by_cases hlt : k < n
    · obtain ⟨ad, rfl, hc⟩ := (HR.out.below HB.out).at_ k (by omega) (by omega)
      rw [Int.toNat_natCast] at hc
      have hx0 : rd l k = l.getD k 0 := by unfold rd; rw [Int.toNat_natCast]
      rw [hx0] at hc
      have hstep := nums_step (l := l) (k := k) (by rw [HL.out]; exact hlt) (by omega)
      obtain ⟨x, hx⟩ : ∃ x, l.getD k 0 = x := ⟨_, rfl⟩
      rw [hx] at hc hstep
      have HS := Aside0.mk hstep
      clear hx hx0 hstep
      go_wp2_with (at_builtin; (with_reducible refine gate_dst (N := 30) rfl ?_); refine ev_append_room rfl (.tmp 17) (.tmp 29) 53 5 rfl Try.underlying53 sizeU8 gb (4 * k) 112 (nums .u8 (putN l k)) (blk_alloc BK.out _) rfl ⟨wr.heap.size, 0, none⟩ 4 4 (nums .u8 (bytes4 x)) rfl rfl (World.news_of_block (cs := (nums .u8 (bytes4 x)).toArray) (t := 5) (fr := (0, 0)) (heap_alloc_new wr _)) (one_nums _ _) (by omega) (by rw [nums_length, putN_length (by rw [HL.out]; exact hk) (by omega)]; omega) ?_; intro w2 hbox hg; have BK2 := Aside0.mk hbox; have HB2 := Aside0.mk ((below_alloc HB.out _).grown hg (by have := HB.out.size; simp; omega) (fun q e => by cases e; exact GE.out)); clear hbox hg)
      have BK3 := BK2.out
      rw [HS.out] at BK3
      have BK4 := Aside0.mk BK3
      clear BK2 BK3
      go_roundw
      case rel => exact ⟨k + 1, by omega, by go_num, by go_num, BK4, HB2⟩
      case measure => simp [intOf]; omega
    · have hkn : k = n := by omega
      subst hkn
      clear hlt hk
      go_wp2
      go_ret2
      refine ⟨_, rfl, ?_, HB.out⟩
      have hlen : (nums .u8 (putN l k)).length = 112 := by rw [nums_length, putN_length (by rw [HL.out]; exact Nat.le_refl _) hn]
      refine ⟨by simpa using hlen, .inr ⟨gb, 112, (nums .u8 (putN l k)).toArray, rfl, GE.out, BK.out, by omega, by simp [maxLen], by simpa using hlen, ?_⟩⟩
      rw [← hlen]; simp
end Go.Proofs.YtjpjjddkbohbpaaX
