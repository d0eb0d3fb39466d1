/- inode.Put: an inode as a block. -/
import Derived.Test.YtgiapegacbibeaaNums
import Derived.Test.YtgiapegacbibeaaMEv
namespace Go.Proofs.YtgiapegacbibeaaX
open Go.RowKit Go.Proofs.YtgiapegacbibeaaW.PrintWords
set_option linter.unusedVariables false
/-- A number's bytes, the greatest first. -/
def encB (x : Int) (z : Nat) : List Int := (List.range z).map fun t => x / 2 ^ (8 * (z - 1 - t)) % 256
theorem encB_length (x : Int) (z : Nat) : (encB x z).length = z := by simp [encB]
def numsOf (a k s l d0 d1 d2 d3 d4 d5 p : Int) : List (Int × Nat) := [(a % 4294967296, 2), (k % 4294967296, 1), (l % 4294967296, 1), (s % 4294967296, 2), (d0, 4), (d1, 4), (d2, 4), (d3, 4), (d4, 4), (d5, 4), (p, 4)]
def preN (N : List (Int × Nat)) (t : Nat) : List Int := (N.take t).flatMap fun q => encB q.1 q.2
def bufR (pre : List Int) (x : Int) (z r : Nat) : List Int := pre ++ (encB x z).take r ++ List.replicate (112 - pre.length - r) 0
def bufN (N : List (Int × Nat)) (t : Nat) : List Int := preN N t ++ List.replicate (112 - (preN N t).length) 0
/-- The block of an inode. -/
def encI (a k s l d0 d1 d2 d3 d4 d5 p : Int) : List Int := bufN (numsOf a k s l d0 d1 d2 d3 d4 d5 p) 11
theorem bufR_zero (N : List (Int × Nat)) (t : Nat) (x : Int) (z : Nat) : bufR (preN N t) x z 0 = bufN N t := by simp [bufR, bufN]
theorem bufR_length {pre : List Int} {x : Int} {z r : Nat} (h : pre.length + z ≤ 112) (hr : r ≤ z) : (bufR pre x z r).length = 112 := by
  simp only [bufR, List.length_append, List.length_take, encB_length, List.length_replicate]; omega
theorem bufR_step {pre : List Int} {x : Int} {z r : Nat} (h : pre.length + z ≤ 112) (hr : r < z) :
    (bufR pre x z r).take (pre.length + r) ++ [x / 2 ^ (8 * (z - 1 - r)) % 256] ++ (bufR pre x z r).drop (pre.length + r + 1) = bufR pre x z (r + 1) := by
  have hl : (pre ++ (encB x z).take r).length = pre.length + r := by simp [encB_length]; omega
  have e1 : (bufR pre x z r).take (pre.length + r) = pre ++ (encB x z).take r := by
    unfold bufR; rw [List.take_append_of_le_length (by omega), List.take_of_length_le (by omega)]
  have e2 : (bufR pre x z r).drop (pre.length + r + 1) = List.replicate (112 - pre.length - (r + 1)) 0 := by
    unfold bufR
    rw [List.drop_append, List.drop_of_length_le (by omega), hl, List.nil_append, List.drop_replicate]
    congr 1; omega
  have e3 : (encB x z).take (r + 1) = (encB x z).take r ++ [x / 2 ^ (8 * (z - 1 - r)) % 256] := by
    rw [List.take_succ_eq_append_getElem (by rw [encB_length]; exact hr)]
    simp [encB]
  rw [e1, e2]
  unfold bufR
  rw [e3]
  simp
theorem bufR_nums {pre : List Int} {x : Int} {z r : Nat} (h : pre.length + z ≤ 112) (hr : r < z) (y : Int) (hy : y = x / 2 ^ (8 * (z - 1 - r)) % 256) :
    (nums .u8 (bufR pre x z r)).take (pre.length + r) ++ nums .u8 [y] ++ (nums .u8 (bufR pre x z r)).drop (pre.length + r + 1) = nums .u8 (bufR pre x z (r + 1)) := by
  rw [hy, ← bufR_step h hr, nums_append, nums_append]
  simp [nums, List.map_take, List.map_drop]
theorem bufR_full (N : List (Int × Nat)) (t : Nat) (x : Int) (z : Nat) (h : N.take (t + 1) = N.take t ++ [(x, z)]) : bufR (preN N t) x z z = bufN N (t + 1) := by
  have e : preN N (t + 1) = preN N t ++ encB x z := by unfold preN; rw [h, List.flatMap_append]; simp
  unfold bufR bufN
  rw [e, List.take_of_length_le (by rw [encB_length]; exact Nat.le_refl _), List.length_append, encB_length, Nat.sub_sub]
def byte0 (x : Int) : Int := x % 256
def byte8 (x : Int) : Int := x / 256 % 256
def byte16 (x : Int) : Int := x / 65536 % 256
def byte24 (x : Int) : Int := x / 16777216 % 256
def offT : Nat → Nat
  | 0 => 0
  | 1 => 2
  | 2 => 3
  | 3 => 4
  | n + 4 => 6 + 4 * n
theorem infoU8 : (Try.prog.info? 5).map (fun i => (i.zero, i.size, i.bytes)) = some (some (.int .u8 0), 1, 1) := by kernel_rfl
theorem sizeU8 : (Try.prog.info? 5).map (·.size) = some 1 := by kernel_rfl
theorem encI_length (a k s l d0 d1 d2 d3 d4 d5 p : Int) : (encI a k s l d0 d1 d2 d3 d4 d5 p).length = 112 := by
  rfl
set_option maxHeartbeats 1000000 in
theorem put_no (a k s l d0 d1 d2 d3 d4 d5 p : Int) (w : World) (hs : s ≤ 9223372036854775807) (hm : mayB a k s l [d0, d1, d2, d3, d4, d5] p = false) :
    Calls Try.prog 20 #[.agg (inoCells a k s l d0 d1 d2 d3 d4 d5 p)] w fun e w' => e = .returned (.tuple #[.slice none 0 0, .int .i64 1]) ∧ Below w.heap.size w w' := by
  have hu25 := Aside0.mk Try.underlying57
  have HM := Aside0.mk hm
  clear hm
  go_enter Try.func20, Try.ntmps20
  go_wp2_with (first | ((with_reducible refine gate_dst (N := 1) rfl ?_); refine box_event ?hg (N := 1) ?hd (cs := inoCells a k s l d0 d1 d2 d3 d4 d5 p) (t := 57) ?hr ?_; (case hd => rfl); (case hg => rfl); (case hr => first | (go_simp; done) | (go_simp; rfl)); intro gb hg w1 hbox hb; have HB1 := Aside0.mk hb; have BK1 := Aside0.mk hbox; clear hb hbox hg) | ((with_reducible refine gate_dst (N := 8) rfl ?_); refine wpList_load_row rfl 57 (.tmp 1) rfl gb rfl _ _ _ _ BK1.out hu25.out rfl sizeInode ?_) | (go_at_call 24; refine (may_any a k s l d0 d1 d2 d3 d4 d5 p _ hs).mono ?_; rw [HM.out]; rintro e w2 ⟨rfl, hb⟩; have HB2 := Aside0.mk (below_step HB1.out hb); clear hb))
  go_ret2
  exact ⟨rfl, HB2.out⟩
set_option maxHeartbeats 4000000 in
set_option maxRecDepth 100000 in
theorem iput_yes (a k s l d0 d1 d2 d3 d4 d5 p : Int) (w : World) (hs : s ≤ 9223372036854775807) (hm : mayB a k s l [d0, d1, d2, d3, d4, d5] p = true) (hx : (0 ≤ d0 ∧ d0 < 4294967296) ∧ (0 ≤ d1 ∧ d1 < 4294967296) ∧ (0 ≤ d2 ∧ d2 < 4294967296) ∧ (0 ≤ d3 ∧ d3 < 4294967296) ∧ (0 ≤ d4 ∧ d4 < 4294967296) ∧ (0 ≤ d5 ∧ d5 < 4294967296) ∧ (0 ≤ p ∧ p < 4294967296)) :
    Calls Try.prog 20 #[.agg (inoCells a k s l d0 d1 d2 d3 d4 d5 p)] w fun e w' => ∃ v, e = .returned (.tuple #[v, .int .i64 0]) ∧ w'.ownsRow w.heap.size 5 1 v 112 (nums .u8 (encI a k s l d0 d1 d2 d3 d4 d5 p)) ∧ Below w.heap.size w w' := by
  have hu25 := Aside0.mk Try.underlying57
  have HM := Aside0.mk hm
  have HX := Aside0.mk hx
  clear hm hx
  obtain ⟨NS, hNS⟩ : ∃ NS, numsOf a k s l d0 d1 d2 d3 d4 d5 p = NS := ⟨_, rfl⟩
  have HNS := Aside0.mk hNS
  clear hNS
  go_enter Try.func20, Try.ntmps20
  go_wp2_with (first | ((with_reducible refine gate_dst (N := 1) rfl ?_); refine box_event ?hg (N := 1) ?hd (cs := inoCells a k s l d0 d1 d2 d3 d4 d5 p) (t := 57) ?hr ?_; (case hd => rfl); (case hg => rfl); (case hr => first | (go_simp; done) | (go_simp; rfl)); intro gb hg w1 hbox hb; have HB1 := Aside0.mk hb; have BK1 := Aside0.mk hbox; clear hb hbox hg) | ((with_reducible refine gate_dst (N := 8) rfl ?_); refine wpList_load_row rfl 57 (.tmp 1) rfl gb rfl _ _ _ _ BK1.out hu25.out rfl sizeInode ?_) | (go_at_call 24; refine (may_any a k s l d0 d1 d2 d3 d4 d5 p _ hs).mono ?_; rw [HM.out]; rintro e w2 ⟨rfl, hb⟩; have HB2 := Aside0.mk (below_step HB1.out hb); have BK2 := Aside0.mk (blk_below BK1.out hb); clear hb) | ((with_reducible refine gate_dst (N := 11) rfl ?_); refine ev_make rfl (.const (.int .i64 0)) (.const (.int .i64 112)) 58 5 .u8 1 rfl Try.underlying58 infoU8 0 112 .i64 .i64 0 112 rfl rfl rfl rfl (by omega) (by omega) (by omega) ?_; intro gB hg w3 hbox hb; have HB3 := Aside0.mk (below_step HB2.out hb); have GE := Aside0.mk (show w.heap.size ≤ gB from by have := HB2.out.size; omega); have BK3 := Aside0.mk (blk_below BK2.out hb); have BB3 := Aside0.mk (show w3.heap[gB]? = some (.cells (nums .u8 (bufN NS 0)).toArray 5 (0, 0)) from hbox); clear hb hbox hg) | ((with_reducible refine gate_dst (N := 12) rfl ?_); refine wpList_load_row rfl 57 (.tmp 1) rfl gb rfl _ _ _ _ BK3.out hu25.out rfl sizeInode ?_) | (go_at_call 25; refine (numbers_any a k s l d0 d1 d2 d3 d4 d5 p _).mono ?_; rintro e w4 ⟨rfl, hb⟩; have HB4 := Aside0.mk (below_step HB3.out hb); have BB4 := Aside0.mk (blk_below BB3.out hb); clear hb))
  go_loopw [4, 14] (fun b i wr => ∃ t : Nat, t ≤ 11 ∧ i = .int .i64 t ∧ b = .slice (some ⟨gB, 0, none⟩) (offT t) 112 ∧ Aside0 (wr.heap[gB]? = some (.cells (nums .u8 (bufN NS t)).toArray 5 (0, 0))) ∧ Aside0 (Below w.heap.size w wr)) (fun _ i _ => 11 - (intOf i).toNat)
  case atStart => exact ⟨0, Nat.zero_le _, rfl, rfl, BB4, HB4⟩
  case round =>
    obtain ⟨t, ht, rfl, rfl, BB, HB⟩ := hrel
    clear BB4 HB4
    by_cases hlt : t < 11
    · have hcase : t = 0 ∨ t = 1 ∨ t = 2 ∨ t = 3 ∨ t = 4 ∨ t = 5 ∨ t = 6 ∨ t = 7 ∨ t = 8 ∨ t = 9 ∨ t = 10 := by omega
      clear ht hlt
      rcases hcase with rfl | rfl | rfl | rfl | rfl | rfl | rfl | rfl | rfl | rfl | rfl
      · go_wp2_with (first | ((with_reducible refine gate_dst (N := 16) rfl ?_); refine ev_value rfl (.agg #[.int .u32 (a % 4294967296), .int .i64 2]) (by kernel_rfl) ?_) | ((with_reducible refine gate_dst (N := 6) rfl ?_); refine box_event ?hg (N := 6) ?hd (cs := #[.int .u32 0, .int .i64 0]) (t := 77) ?hr ?_; (case hd => rfl); (case hg => rfl); (case hr => first | (go_simp; done) | (go_simp; rfl)); intro g6 hg w5 hbox hb; have N6 := Aside0.mk (show g6 ≠ gB from fun e => by have h1 := blk_lt BB.out; omega); have G6 := Aside0.mk (show w.heap.size ≤ g6 from by have := HB.out.size; omega); have HB5 := Aside0.mk (below_step HB.out hb); have BB5 := Aside0.mk (blk_below BB.out hb); have B65 := Aside0.mk (hbox); clear hb hbox hg) | ((with_reducible refine gate_store (t := 77) (p := 6) (v := .tmp 16) rfl ?_); refine ev_store_row (by rfl) 77 (.tmp 6) (.tmp 16) (by rfl) g6 #[.int .u32 (a % 4294967296), .int .i64 2] (by kernel_rfl) (by kernel_rfl) 77 _ B65.out sizeNum (by rfl) (by simp [Value.oneCell']) ?_; intro w6 hbox hg; have HB6 := Aside0.mk (pw_below_grown HB5.out _ HB5.out.size hg (fun q e => by cases e; exact G6.out)); have BB6 := Aside0.mk (blk_grown BB5.out hg (fun e => N6.out (Option.some.inj e).symm)); have B66 := Aside0.mk (hbox); have p0 := (blk_cell B66.out 0).trans (show (#[.int .u32 (a % 4294967296), .int .i64 2] : Array Value)[0]? = some (.int .u32 (a % 4294967296)) from rfl); have p1 := (blk_cell B66.out 1).trans (show (#[.int .u32 (a % 4294967296), .int .i64 2] : Array Value)[1]? = some (.int .i64 2) from rfl); clear hbox hg))
        have hpl : (preN NS 0).length = 0 := by rw [← HNS.out]; rfl
        have htk : NS.take (0 + 1) = NS.take 0 ++ [((a % 4294967296), 2)] := by rw [← HNS.out]; rfl
        have PL := Aside0.mk hpl
        have TK := Aside0.mk htk
        clear hpl htk p0 p1
        have BI : Aside0 (w6.heap[gB]? = some (.cells (nums .u8 (bufR (preN NS 0) (a % 4294967296) 2 0)).toArray 5 (0, 0))) := ⟨by rw [bufR_zero]; exact BB6.out⟩
        go_loopw [4, 7] (fun b kk wq => ∃ r : Nat, r ≤ 2 ∧ kk = .int .i64 ((1 : Int) - r) ∧ b = .slice (some ⟨gB, 0, none⟩) (0 + r) 112 ∧ Aside0 (wq.heap[gB]? = some (.cells (nums .u8 (bufR (preN NS 0) (a % 4294967296) 2 r)).toArray 5 (0, 0))) ∧ Aside0 (wq.heap[g6]? = some (.cells #[.int .u32 (a % 4294967296), .int .i64 2] 77 (0, 0))) ∧ Aside0 (Below w.heap.size w wq)) (fun _ kk _ => (intOf kk + 1).toNat)
        case atStart => exact ⟨0, Nat.zero_le _, rfl, rfl, BI, B66, HB6⟩
        case round =>
          obtain ⟨r, hr, rfl, rfl, BQ, B6, HQ⟩ := hrel
          clear BI B66 HB6
          by_cases hrz : r < 2
          · have hcr : r = 0 ∨ r = 1 := by omega
            have q0 := (blk_cell B6.out 0).trans (show (#[.int .u32 (a % 4294967296), .int .i64 2] : Array Value)[0]? = some (.int .u32 (a % 4294967296)) from rfl)
            have q1 := (blk_cell B6.out 1).trans (show (#[.int .u32 (a % 4294967296), .int .i64 2] : Array Value)[1]? = some (.int .i64 2) from rfl)
            clear hr hrz
            rcases hcr with rfl | rfl
            · have ST := Aside0.mk (bufR_nums (pre := preN NS 0) (x := (a % 4294967296)) (z := 2) (r := 0) (by rw [PL.out]; decide) (by decide) (byte8 (a % 4294967296)) (by unfold byte8; rfl))
              rw [PL.out] at ST
              go_wp2_with (first | (at_builtin; (with_reducible refine gate_dst (N := 32) rfl ?_); refine ev_append_room rfl (.tmp 24) (.tmp 31) 58 5 rfl Try.underlying58 sizeU8 gB (0 + 0) 112 (nums .u8 (bufR (preN NS 0) (a % 4294967296) 2 0)) (blk_alloc BQ.out _) (by kernel_rfl) ⟨wr.heap.size, 0, none⟩ 1 1 (nums .u8 [(byte8 (a % 4294967296))]) rfl rfl (World.news_of_block (cs := (nums .u8 [(byte8 (a % 4294967296))]).toArray) (t := 5) (fr := (0, 0)) (heap_alloc_new wr _)) (one_nums _ _) (by omega) (by rw [nums_length, bufR_length (by rw [PL.out]; decide) (by decide)]; omega) ?_; intro w7 hbox hg; have hbx := hbox; rw [ST.out] at hbx; have BQ7 := Aside0.mk hbx; have HQ7 := Aside0.mk ((below_alloc HQ.out _).grown hg (by have := HQ.out.size; simp; omega) (fun q e => by cases e; exact GE.out)); have B67 := Aside0.mk (blk_grown (blk_alloc B6.out _) hg (fun e => N6.out (Option.some.inj e))); clear hbox hbx hg))
              go_roundw
              case rel => exact ⟨0 + 1, by omega, by go_num, rfl, BQ7, B67, HQ7⟩
              case measure => simp [intOf]
            · have ST := Aside0.mk (bufR_nums (pre := preN NS 0) (x := (a % 4294967296)) (z := 2) (r := 1) (by rw [PL.out]; decide) (by decide) (a % 256) (by omega))
              rw [PL.out] at ST
              go_wp2_with (first | (at_builtin; (with_reducible refine gate_dst (N := 32) rfl ?_); refine ev_append_room rfl (.tmp 24) (.tmp 31) 58 5 rfl Try.underlying58 sizeU8 gB (0 + 1) 112 (nums .u8 (bufR (preN NS 0) (a % 4294967296) 2 1)) (blk_alloc BQ.out _) (by kernel_rfl) ⟨wr.heap.size, 0, none⟩ 1 1 (nums .u8 [(a % 256)]) rfl rfl (World.news_of_block (cs := (nums .u8 [(a % 256)]).toArray) (t := 5) (fr := (0, 0)) (heap_alloc_new wr _)) (one_nums _ _) (by omega) (by rw [nums_length, bufR_length (by rw [PL.out]; decide) (by decide)]; omega) ?_; intro w7 hbox hg; have hbx := hbox; rw [ST.out] at hbx; have BQ7 := Aside0.mk hbx; have HQ7 := Aside0.mk ((below_alloc HQ.out _).grown hg (by have := HQ.out.size; simp; omega) (fun q e => by cases e; exact GE.out)); have B67 := Aside0.mk (blk_grown (blk_alloc B6.out _) hg (fun e => N6.out (Option.some.inj e))); clear hbox hbx hg))
              go_roundw
              case rel => exact ⟨1 + 1, by omega, by go_num, rfl, BQ7, B67, HQ7⟩
              case measure => simp [intOf]
          · obtain rfl : r = 2 := by omega
            have BE : Aside0 (wr.heap[gB]? = some (.cells (nums .u8 (bufN NS (0 + 1))).toArray 5 (0, 0))) := ⟨by rw [← bufR_full NS 0 _ _ TK.out]; exact BQ.out⟩
            clear hr hrz BQ
            go_wp2
            go_roundw
            case rel => exact ⟨0 + 1, by omega, by go_num, rfl, BE, HQ⟩
            case measure => simp [intOf]
      · go_wp2_with (first | ((with_reducible refine gate_dst (N := 16) rfl ?_); refine ev_value rfl (.agg #[.int .u32 (k % 4294967296), .int .i64 1]) (by kernel_rfl) ?_) | ((with_reducible refine gate_dst (N := 6) rfl ?_); refine box_event ?hg (N := 6) ?hd (cs := #[.int .u32 0, .int .i64 0]) (t := 77) ?hr ?_; (case hd => rfl); (case hg => rfl); (case hr => first | (go_simp; done) | (go_simp; rfl)); intro g6 hg w5 hbox hb; have N6 := Aside0.mk (show g6 ≠ gB from fun e => by have h1 := blk_lt BB.out; omega); have G6 := Aside0.mk (show w.heap.size ≤ g6 from by have := HB.out.size; omega); have HB5 := Aside0.mk (below_step HB.out hb); have BB5 := Aside0.mk (blk_below BB.out hb); have B65 := Aside0.mk (hbox); clear hb hbox hg) | ((with_reducible refine gate_store (t := 77) (p := 6) (v := .tmp 16) rfl ?_); refine ev_store_row (by rfl) 77 (.tmp 6) (.tmp 16) (by rfl) g6 #[.int .u32 (k % 4294967296), .int .i64 1] (by kernel_rfl) (by kernel_rfl) 77 _ B65.out sizeNum (by rfl) (by simp [Value.oneCell']) ?_; intro w6 hbox hg; have HB6 := Aside0.mk (pw_below_grown HB5.out _ HB5.out.size hg (fun q e => by cases e; exact G6.out)); have BB6 := Aside0.mk (blk_grown BB5.out hg (fun e => N6.out (Option.some.inj e).symm)); have B66 := Aside0.mk (hbox); have p0 := (blk_cell B66.out 0).trans (show (#[.int .u32 (k % 4294967296), .int .i64 1] : Array Value)[0]? = some (.int .u32 (k % 4294967296)) from rfl); have p1 := (blk_cell B66.out 1).trans (show (#[.int .u32 (k % 4294967296), .int .i64 1] : Array Value)[1]? = some (.int .i64 1) from rfl); clear hbox hg))
        have hpl : (preN NS 1).length = 2 := by rw [← HNS.out]; rfl
        have htk : NS.take (1 + 1) = NS.take 1 ++ [((k % 4294967296), 1)] := by rw [← HNS.out]; rfl
        have PL := Aside0.mk hpl
        have TK := Aside0.mk htk
        clear hpl htk p0 p1
        have BI : Aside0 (w6.heap[gB]? = some (.cells (nums .u8 (bufR (preN NS 1) (k % 4294967296) 1 0)).toArray 5 (0, 0))) := ⟨by rw [bufR_zero]; exact BB6.out⟩
        go_loopw [4, 7] (fun b kk wq => ∃ r : Nat, r ≤ 1 ∧ kk = .int .i64 ((0 : Int) - r) ∧ b = .slice (some ⟨gB, 0, none⟩) (2 + r) 112 ∧ Aside0 (wq.heap[gB]? = some (.cells (nums .u8 (bufR (preN NS 1) (k % 4294967296) 1 r)).toArray 5 (0, 0))) ∧ Aside0 (wq.heap[g6]? = some (.cells #[.int .u32 (k % 4294967296), .int .i64 1] 77 (0, 0))) ∧ Aside0 (Below w.heap.size w wq)) (fun _ kk _ => (intOf kk + 1).toNat)
        case atStart => exact ⟨0, Nat.zero_le _, rfl, rfl, BI, B66, HB6⟩
        case round =>
          obtain ⟨r, hr, rfl, rfl, BQ, B6, HQ⟩ := hrel
          clear BI B66 HB6
          by_cases hrz : r < 1
          · have hcr : r = 0 := by omega
            have q0 := (blk_cell B6.out 0).trans (show (#[.int .u32 (k % 4294967296), .int .i64 1] : Array Value)[0]? = some (.int .u32 (k % 4294967296)) from rfl)
            have q1 := (blk_cell B6.out 1).trans (show (#[.int .u32 (k % 4294967296), .int .i64 1] : Array Value)[1]? = some (.int .i64 1) from rfl)
            clear hr hrz
            rcases hcr with rfl
            · have ST := Aside0.mk (bufR_nums (pre := preN NS 1) (x := (k % 4294967296)) (z := 1) (r := 0) (by rw [PL.out]; decide) (by decide) (k % 256) (by omega))
              rw [PL.out] at ST
              go_wp2_with (first | (at_builtin; (with_reducible refine gate_dst (N := 32) rfl ?_); refine ev_append_room rfl (.tmp 24) (.tmp 31) 58 5 rfl Try.underlying58 sizeU8 gB (2 + 0) 112 (nums .u8 (bufR (preN NS 1) (k % 4294967296) 1 0)) (blk_alloc BQ.out _) (by kernel_rfl) ⟨wr.heap.size, 0, none⟩ 1 1 (nums .u8 [(k % 256)]) rfl rfl (World.news_of_block (cs := (nums .u8 [(k % 256)]).toArray) (t := 5) (fr := (0, 0)) (heap_alloc_new wr _)) (one_nums _ _) (by omega) (by rw [nums_length, bufR_length (by rw [PL.out]; decide) (by decide)]; omega) ?_; intro w7 hbox hg; have hbx := hbox; rw [ST.out] at hbx; have BQ7 := Aside0.mk hbx; have HQ7 := Aside0.mk ((below_alloc HQ.out _).grown hg (by have := HQ.out.size; simp; omega) (fun q e => by cases e; exact GE.out)); have B67 := Aside0.mk (blk_grown (blk_alloc B6.out _) hg (fun e => N6.out (Option.some.inj e))); clear hbox hbx hg))
              go_roundw
              case rel => exact ⟨0 + 1, by omega, by go_num, rfl, BQ7, B67, HQ7⟩
              case measure => simp [intOf]
          · obtain rfl : r = 1 := by omega
            have BE : Aside0 (wr.heap[gB]? = some (.cells (nums .u8 (bufN NS (1 + 1))).toArray 5 (0, 0))) := ⟨by rw [← bufR_full NS 1 _ _ TK.out]; exact BQ.out⟩
            clear hr hrz BQ
            go_wp2
            go_roundw
            case rel => exact ⟨1 + 1, by omega, by go_num, rfl, BE, HQ⟩
            case measure => simp [intOf]
      · go_wp2_with (first | ((with_reducible refine gate_dst (N := 16) rfl ?_); refine ev_value rfl (.agg #[.int .u32 (l % 4294967296), .int .i64 1]) (by kernel_rfl) ?_) | ((with_reducible refine gate_dst (N := 6) rfl ?_); refine box_event ?hg (N := 6) ?hd (cs := #[.int .u32 0, .int .i64 0]) (t := 77) ?hr ?_; (case hd => rfl); (case hg => rfl); (case hr => first | (go_simp; done) | (go_simp; rfl)); intro g6 hg w5 hbox hb; have N6 := Aside0.mk (show g6 ≠ gB from fun e => by have h1 := blk_lt BB.out; omega); have G6 := Aside0.mk (show w.heap.size ≤ g6 from by have := HB.out.size; omega); have HB5 := Aside0.mk (below_step HB.out hb); have BB5 := Aside0.mk (blk_below BB.out hb); have B65 := Aside0.mk (hbox); clear hb hbox hg) | ((with_reducible refine gate_store (t := 77) (p := 6) (v := .tmp 16) rfl ?_); refine ev_store_row (by rfl) 77 (.tmp 6) (.tmp 16) (by rfl) g6 #[.int .u32 (l % 4294967296), .int .i64 1] (by kernel_rfl) (by kernel_rfl) 77 _ B65.out sizeNum (by rfl) (by simp [Value.oneCell']) ?_; intro w6 hbox hg; have HB6 := Aside0.mk (pw_below_grown HB5.out _ HB5.out.size hg (fun q e => by cases e; exact G6.out)); have BB6 := Aside0.mk (blk_grown BB5.out hg (fun e => N6.out (Option.some.inj e).symm)); have B66 := Aside0.mk (hbox); have p0 := (blk_cell B66.out 0).trans (show (#[.int .u32 (l % 4294967296), .int .i64 1] : Array Value)[0]? = some (.int .u32 (l % 4294967296)) from rfl); have p1 := (blk_cell B66.out 1).trans (show (#[.int .u32 (l % 4294967296), .int .i64 1] : Array Value)[1]? = some (.int .i64 1) from rfl); clear hbox hg))
        have hpl : (preN NS 2).length = 3 := by rw [← HNS.out]; rfl
        have htk : NS.take (2 + 1) = NS.take 2 ++ [((l % 4294967296), 1)] := by rw [← HNS.out]; rfl
        have PL := Aside0.mk hpl
        have TK := Aside0.mk htk
        clear hpl htk p0 p1
        have BI : Aside0 (w6.heap[gB]? = some (.cells (nums .u8 (bufR (preN NS 2) (l % 4294967296) 1 0)).toArray 5 (0, 0))) := ⟨by rw [bufR_zero]; exact BB6.out⟩
        go_loopw [4, 7] (fun b kk wq => ∃ r : Nat, r ≤ 1 ∧ kk = .int .i64 ((0 : Int) - r) ∧ b = .slice (some ⟨gB, 0, none⟩) (3 + r) 112 ∧ Aside0 (wq.heap[gB]? = some (.cells (nums .u8 (bufR (preN NS 2) (l % 4294967296) 1 r)).toArray 5 (0, 0))) ∧ Aside0 (wq.heap[g6]? = some (.cells #[.int .u32 (l % 4294967296), .int .i64 1] 77 (0, 0))) ∧ Aside0 (Below w.heap.size w wq)) (fun _ kk _ => (intOf kk + 1).toNat)
        case atStart => exact ⟨0, Nat.zero_le _, rfl, rfl, BI, B66, HB6⟩
        case round =>
          obtain ⟨r, hr, rfl, rfl, BQ, B6, HQ⟩ := hrel
          clear BI B66 HB6
          by_cases hrz : r < 1
          · have hcr : r = 0 := by omega
            have q0 := (blk_cell B6.out 0).trans (show (#[.int .u32 (l % 4294967296), .int .i64 1] : Array Value)[0]? = some (.int .u32 (l % 4294967296)) from rfl)
            have q1 := (blk_cell B6.out 1).trans (show (#[.int .u32 (l % 4294967296), .int .i64 1] : Array Value)[1]? = some (.int .i64 1) from rfl)
            clear hr hrz
            rcases hcr with rfl
            · have ST := Aside0.mk (bufR_nums (pre := preN NS 2) (x := (l % 4294967296)) (z := 1) (r := 0) (by rw [PL.out]; decide) (by decide) (l % 256) (by omega))
              rw [PL.out] at ST
              go_wp2_with (first | (at_builtin; (with_reducible refine gate_dst (N := 32) rfl ?_); refine ev_append_room rfl (.tmp 24) (.tmp 31) 58 5 rfl Try.underlying58 sizeU8 gB (3 + 0) 112 (nums .u8 (bufR (preN NS 2) (l % 4294967296) 1 0)) (blk_alloc BQ.out _) (by kernel_rfl) ⟨wr.heap.size, 0, none⟩ 1 1 (nums .u8 [(l % 256)]) rfl rfl (World.news_of_block (cs := (nums .u8 [(l % 256)]).toArray) (t := 5) (fr := (0, 0)) (heap_alloc_new wr _)) (one_nums _ _) (by omega) (by rw [nums_length, bufR_length (by rw [PL.out]; decide) (by decide)]; omega) ?_; intro w7 hbox hg; have hbx := hbox; rw [ST.out] at hbx; have BQ7 := Aside0.mk hbx; have HQ7 := Aside0.mk ((below_alloc HQ.out _).grown hg (by have := HQ.out.size; simp; omega) (fun q e => by cases e; exact GE.out)); have B67 := Aside0.mk (blk_grown (blk_alloc B6.out _) hg (fun e => N6.out (Option.some.inj e))); clear hbox hbx hg))
              go_roundw
              case rel => exact ⟨0 + 1, by omega, by go_num, rfl, BQ7, B67, HQ7⟩
              case measure => simp [intOf]
          · obtain rfl : r = 1 := by omega
            have BE : Aside0 (wr.heap[gB]? = some (.cells (nums .u8 (bufN NS (2 + 1))).toArray 5 (0, 0))) := ⟨by rw [← bufR_full NS 2 _ _ TK.out]; exact BQ.out⟩
            clear hr hrz BQ
            go_wp2
            go_roundw
            case rel => exact ⟨2 + 1, by omega, by go_num, rfl, BE, HQ⟩
            case measure => simp [intOf]
      · go_wp2_with (first | ((with_reducible refine gate_dst (N := 16) rfl ?_); refine ev_value rfl (.agg #[.int .u32 (s % 4294967296), .int .i64 2]) (by kernel_rfl) ?_) | ((with_reducible refine gate_dst (N := 6) rfl ?_); refine box_event ?hg (N := 6) ?hd (cs := #[.int .u32 0, .int .i64 0]) (t := 77) ?hr ?_; (case hd => rfl); (case hg => rfl); (case hr => first | (go_simp; done) | (go_simp; rfl)); intro g6 hg w5 hbox hb; have N6 := Aside0.mk (show g6 ≠ gB from fun e => by have h1 := blk_lt BB.out; omega); have G6 := Aside0.mk (show w.heap.size ≤ g6 from by have := HB.out.size; omega); have HB5 := Aside0.mk (below_step HB.out hb); have BB5 := Aside0.mk (blk_below BB.out hb); have B65 := Aside0.mk (hbox); clear hb hbox hg) | ((with_reducible refine gate_store (t := 77) (p := 6) (v := .tmp 16) rfl ?_); refine ev_store_row (by rfl) 77 (.tmp 6) (.tmp 16) (by rfl) g6 #[.int .u32 (s % 4294967296), .int .i64 2] (by kernel_rfl) (by kernel_rfl) 77 _ B65.out sizeNum (by rfl) (by simp [Value.oneCell']) ?_; intro w6 hbox hg; have HB6 := Aside0.mk (pw_below_grown HB5.out _ HB5.out.size hg (fun q e => by cases e; exact G6.out)); have BB6 := Aside0.mk (blk_grown BB5.out hg (fun e => N6.out (Option.some.inj e).symm)); have B66 := Aside0.mk (hbox); have p0 := (blk_cell B66.out 0).trans (show (#[.int .u32 (s % 4294967296), .int .i64 2] : Array Value)[0]? = some (.int .u32 (s % 4294967296)) from rfl); have p1 := (blk_cell B66.out 1).trans (show (#[.int .u32 (s % 4294967296), .int .i64 2] : Array Value)[1]? = some (.int .i64 2) from rfl); clear hbox hg))
        have hpl : (preN NS 3).length = 4 := by rw [← HNS.out]; rfl
        have htk : NS.take (3 + 1) = NS.take 3 ++ [((s % 4294967296), 2)] := by rw [← HNS.out]; rfl
        have PL := Aside0.mk hpl
        have TK := Aside0.mk htk
        clear hpl htk p0 p1
        have BI : Aside0 (w6.heap[gB]? = some (.cells (nums .u8 (bufR (preN NS 3) (s % 4294967296) 2 0)).toArray 5 (0, 0))) := ⟨by rw [bufR_zero]; exact BB6.out⟩
        go_loopw [4, 7] (fun b kk wq => ∃ r : Nat, r ≤ 2 ∧ kk = .int .i64 ((1 : Int) - r) ∧ b = .slice (some ⟨gB, 0, none⟩) (4 + r) 112 ∧ Aside0 (wq.heap[gB]? = some (.cells (nums .u8 (bufR (preN NS 3) (s % 4294967296) 2 r)).toArray 5 (0, 0))) ∧ Aside0 (wq.heap[g6]? = some (.cells #[.int .u32 (s % 4294967296), .int .i64 2] 77 (0, 0))) ∧ Aside0 (Below w.heap.size w wq)) (fun _ kk _ => (intOf kk + 1).toNat)
        case atStart => exact ⟨0, Nat.zero_le _, rfl, rfl, BI, B66, HB6⟩
        case round =>
          obtain ⟨r, hr, rfl, rfl, BQ, B6, HQ⟩ := hrel
          clear BI B66 HB6
          by_cases hrz : r < 2
          · have hcr : r = 0 ∨ r = 1 := by omega
            have q0 := (blk_cell B6.out 0).trans (show (#[.int .u32 (s % 4294967296), .int .i64 2] : Array Value)[0]? = some (.int .u32 (s % 4294967296)) from rfl)
            have q1 := (blk_cell B6.out 1).trans (show (#[.int .u32 (s % 4294967296), .int .i64 2] : Array Value)[1]? = some (.int .i64 2) from rfl)
            clear hr hrz
            rcases hcr with rfl | rfl
            · have ST := Aside0.mk (bufR_nums (pre := preN NS 3) (x := (s % 4294967296)) (z := 2) (r := 0) (by rw [PL.out]; decide) (by decide) (byte8 (s % 4294967296)) (by unfold byte8; rfl))
              rw [PL.out] at ST
              go_wp2_with (first | (at_builtin; (with_reducible refine gate_dst (N := 32) rfl ?_); refine ev_append_room rfl (.tmp 24) (.tmp 31) 58 5 rfl Try.underlying58 sizeU8 gB (4 + 0) 112 (nums .u8 (bufR (preN NS 3) (s % 4294967296) 2 0)) (blk_alloc BQ.out _) (by kernel_rfl) ⟨wr.heap.size, 0, none⟩ 1 1 (nums .u8 [(byte8 (s % 4294967296))]) rfl rfl (World.news_of_block (cs := (nums .u8 [(byte8 (s % 4294967296))]).toArray) (t := 5) (fr := (0, 0)) (heap_alloc_new wr _)) (one_nums _ _) (by omega) (by rw [nums_length, bufR_length (by rw [PL.out]; decide) (by decide)]; omega) ?_; intro w7 hbox hg; have hbx := hbox; rw [ST.out] at hbx; have BQ7 := Aside0.mk hbx; have HQ7 := Aside0.mk ((below_alloc HQ.out _).grown hg (by have := HQ.out.size; simp; omega) (fun q e => by cases e; exact GE.out)); have B67 := Aside0.mk (blk_grown (blk_alloc B6.out _) hg (fun e => N6.out (Option.some.inj e))); clear hbox hbx hg))
              go_roundw
              case rel => exact ⟨0 + 1, by omega, by go_num, rfl, BQ7, B67, HQ7⟩
              case measure => simp [intOf]
            · have ST := Aside0.mk (bufR_nums (pre := preN NS 3) (x := (s % 4294967296)) (z := 2) (r := 1) (by rw [PL.out]; decide) (by decide) (s % 256) (by omega))
              rw [PL.out] at ST
              go_wp2_with (first | (at_builtin; (with_reducible refine gate_dst (N := 32) rfl ?_); refine ev_append_room rfl (.tmp 24) (.tmp 31) 58 5 rfl Try.underlying58 sizeU8 gB (4 + 1) 112 (nums .u8 (bufR (preN NS 3) (s % 4294967296) 2 1)) (blk_alloc BQ.out _) (by kernel_rfl) ⟨wr.heap.size, 0, none⟩ 1 1 (nums .u8 [(s % 256)]) rfl rfl (World.news_of_block (cs := (nums .u8 [(s % 256)]).toArray) (t := 5) (fr := (0, 0)) (heap_alloc_new wr _)) (one_nums _ _) (by omega) (by rw [nums_length, bufR_length (by rw [PL.out]; decide) (by decide)]; omega) ?_; intro w7 hbox hg; have hbx := hbox; rw [ST.out] at hbx; have BQ7 := Aside0.mk hbx; have HQ7 := Aside0.mk ((below_alloc HQ.out _).grown hg (by have := HQ.out.size; simp; omega) (fun q e => by cases e; exact GE.out)); have B67 := Aside0.mk (blk_grown (blk_alloc B6.out _) hg (fun e => N6.out (Option.some.inj e))); clear hbox hbx hg))
              go_roundw
              case rel => exact ⟨1 + 1, by omega, by go_num, rfl, BQ7, B67, HQ7⟩
              case measure => simp [intOf]
          · obtain rfl : r = 2 := by omega
            have BE : Aside0 (wr.heap[gB]? = some (.cells (nums .u8 (bufN NS (3 + 1))).toArray 5 (0, 0))) := ⟨by rw [← bufR_full NS 3 _ _ TK.out]; exact BQ.out⟩
            clear hr hrz BQ
            go_wp2
            go_roundw
            case rel => exact ⟨3 + 1, by omega, by go_num, rfl, BE, HQ⟩
            case measure => simp [intOf]
      · go_wp2_with (first | ((with_reducible refine gate_dst (N := 16) rfl ?_); refine ev_value rfl (.agg #[.int .u32 d0, .int .i64 4]) (by kernel_rfl) ?_) | ((with_reducible refine gate_dst (N := 6) rfl ?_); refine box_event ?hg (N := 6) ?hd (cs := #[.int .u32 0, .int .i64 0]) (t := 77) ?hr ?_; (case hd => rfl); (case hg => rfl); (case hr => first | (go_simp; done) | (go_simp; rfl)); intro g6 hg w5 hbox hb; have N6 := Aside0.mk (show g6 ≠ gB from fun e => by have h1 := blk_lt BB.out; omega); have G6 := Aside0.mk (show w.heap.size ≤ g6 from by have := HB.out.size; omega); have HB5 := Aside0.mk (below_step HB.out hb); have BB5 := Aside0.mk (blk_below BB.out hb); have B65 := Aside0.mk (hbox); clear hb hbox hg) | ((with_reducible refine gate_store (t := 77) (p := 6) (v := .tmp 16) rfl ?_); refine ev_store_row (by rfl) 77 (.tmp 6) (.tmp 16) (by rfl) g6 #[.int .u32 d0, .int .i64 4] (by kernel_rfl) (by kernel_rfl) 77 _ B65.out sizeNum (by rfl) (by simp [Value.oneCell']) ?_; intro w6 hbox hg; have HB6 := Aside0.mk (pw_below_grown HB5.out _ HB5.out.size hg (fun q e => by cases e; exact G6.out)); have BB6 := Aside0.mk (blk_grown BB5.out hg (fun e => N6.out (Option.some.inj e).symm)); have B66 := Aside0.mk (hbox); have p0 := (blk_cell B66.out 0).trans (show (#[.int .u32 d0, .int .i64 4] : Array Value)[0]? = some (.int .u32 d0) from rfl); have p1 := (blk_cell B66.out 1).trans (show (#[.int .u32 d0, .int .i64 4] : Array Value)[1]? = some (.int .i64 4) from rfl); clear hbox hg))
        have hpl : (preN NS 4).length = 6 := by rw [← HNS.out]; rfl
        have htk : NS.take (4 + 1) = NS.take 4 ++ [(d0, 4)] := by rw [← HNS.out]; rfl
        have PL := Aside0.mk hpl
        have TK := Aside0.mk htk
        clear hpl htk p0 p1
        have BI : Aside0 (w6.heap[gB]? = some (.cells (nums .u8 (bufR (preN NS 4) d0 4 0)).toArray 5 (0, 0))) := ⟨by rw [bufR_zero]; exact BB6.out⟩
        go_loopw [4, 7] (fun b kk wq => ∃ r : Nat, r ≤ 4 ∧ kk = .int .i64 ((3 : Int) - r) ∧ b = .slice (some ⟨gB, 0, none⟩) (6 + r) 112 ∧ Aside0 (wq.heap[gB]? = some (.cells (nums .u8 (bufR (preN NS 4) d0 4 r)).toArray 5 (0, 0))) ∧ Aside0 (wq.heap[g6]? = some (.cells #[.int .u32 d0, .int .i64 4] 77 (0, 0))) ∧ Aside0 (Below w.heap.size w wq)) (fun _ kk _ => (intOf kk + 1).toNat)
        case atStart => exact ⟨0, Nat.zero_le _, rfl, rfl, BI, B66, HB6⟩
        case round =>
          obtain ⟨r, hr, rfl, rfl, BQ, B6, HQ⟩ := hrel
          clear BI B66 HB6
          by_cases hrz : r < 4
          · have hcr : r = 0 ∨ r = 1 ∨ r = 2 ∨ r = 3 := by omega
            have q0 := (blk_cell B6.out 0).trans (show (#[.int .u32 d0, .int .i64 4] : Array Value)[0]? = some (.int .u32 d0) from rfl)
            have q1 := (blk_cell B6.out 1).trans (show (#[.int .u32 d0, .int .i64 4] : Array Value)[1]? = some (.int .i64 4) from rfl)
            clear hr hrz
            rcases hcr with rfl | rfl | rfl | rfl
            · have ST := Aside0.mk (bufR_nums (pre := preN NS 4) (x := d0) (z := 4) (r := 0) (by rw [PL.out]; decide) (by decide) (byte24 d0) (by unfold byte24; rfl))
              rw [PL.out] at ST
              go_wp2_with (first | (at_builtin; (with_reducible refine gate_dst (N := 32) rfl ?_); refine ev_append_room rfl (.tmp 24) (.tmp 31) 58 5 rfl Try.underlying58 sizeU8 gB (6 + 0) 112 (nums .u8 (bufR (preN NS 4) d0 4 0)) (blk_alloc BQ.out _) (by kernel_rfl) ⟨wr.heap.size, 0, none⟩ 1 1 (nums .u8 [(byte24 d0)]) rfl rfl (World.news_of_block (cs := (nums .u8 [(byte24 d0)]).toArray) (t := 5) (fr := (0, 0)) (heap_alloc_new wr _)) (one_nums _ _) (by omega) (by rw [nums_length, bufR_length (by rw [PL.out]; decide) (by decide)]; omega) ?_; intro w7 hbox hg; have hbx := hbox; rw [ST.out] at hbx; have BQ7 := Aside0.mk hbx; have HQ7 := Aside0.mk ((below_alloc HQ.out _).grown hg (by have := HQ.out.size; simp; omega) (fun q e => by cases e; exact GE.out)); have B67 := Aside0.mk (blk_grown (blk_alloc B6.out _) hg (fun e => N6.out (Option.some.inj e))); clear hbox hbx hg))
              go_roundw
              case rel => exact ⟨0 + 1, by omega, by go_num, rfl, BQ7, B67, HQ7⟩
              case measure => simp [intOf]
            · have ST := Aside0.mk (bufR_nums (pre := preN NS 4) (x := d0) (z := 4) (r := 1) (by rw [PL.out]; decide) (by decide) (byte16 d0) (by unfold byte16; rfl))
              rw [PL.out] at ST
              go_wp2_with (first | (at_builtin; (with_reducible refine gate_dst (N := 32) rfl ?_); refine ev_append_room rfl (.tmp 24) (.tmp 31) 58 5 rfl Try.underlying58 sizeU8 gB (6 + 1) 112 (nums .u8 (bufR (preN NS 4) d0 4 1)) (blk_alloc BQ.out _) (by kernel_rfl) ⟨wr.heap.size, 0, none⟩ 1 1 (nums .u8 [(byte16 d0)]) rfl rfl (World.news_of_block (cs := (nums .u8 [(byte16 d0)]).toArray) (t := 5) (fr := (0, 0)) (heap_alloc_new wr _)) (one_nums _ _) (by omega) (by rw [nums_length, bufR_length (by rw [PL.out]; decide) (by decide)]; omega) ?_; intro w7 hbox hg; have hbx := hbox; rw [ST.out] at hbx; have BQ7 := Aside0.mk hbx; have HQ7 := Aside0.mk ((below_alloc HQ.out _).grown hg (by have := HQ.out.size; simp; omega) (fun q e => by cases e; exact GE.out)); have B67 := Aside0.mk (blk_grown (blk_alloc B6.out _) hg (fun e => N6.out (Option.some.inj e))); clear hbox hbx hg))
              go_roundw
              case rel => exact ⟨1 + 1, by omega, by go_num, rfl, BQ7, B67, HQ7⟩
              case measure => simp [intOf]
            · have ST := Aside0.mk (bufR_nums (pre := preN NS 4) (x := d0) (z := 4) (r := 2) (by rw [PL.out]; decide) (by decide) (byte8 d0) (by unfold byte8; rfl))
              rw [PL.out] at ST
              go_wp2_with (first | (at_builtin; (with_reducible refine gate_dst (N := 32) rfl ?_); refine ev_append_room rfl (.tmp 24) (.tmp 31) 58 5 rfl Try.underlying58 sizeU8 gB (6 + 2) 112 (nums .u8 (bufR (preN NS 4) d0 4 2)) (blk_alloc BQ.out _) (by kernel_rfl) ⟨wr.heap.size, 0, none⟩ 1 1 (nums .u8 [(byte8 d0)]) rfl rfl (World.news_of_block (cs := (nums .u8 [(byte8 d0)]).toArray) (t := 5) (fr := (0, 0)) (heap_alloc_new wr _)) (one_nums _ _) (by omega) (by rw [nums_length, bufR_length (by rw [PL.out]; decide) (by decide)]; omega) ?_; intro w7 hbox hg; have hbx := hbox; rw [ST.out] at hbx; have BQ7 := Aside0.mk hbx; have HQ7 := Aside0.mk ((below_alloc HQ.out _).grown hg (by have := HQ.out.size; simp; omega) (fun q e => by cases e; exact GE.out)); have B67 := Aside0.mk (blk_grown (blk_alloc B6.out _) hg (fun e => N6.out (Option.some.inj e))); clear hbox hbx hg))
              go_roundw
              case rel => exact ⟨2 + 1, by omega, by go_num, rfl, BQ7, B67, HQ7⟩
              case measure => simp [intOf]
            · have ST := Aside0.mk (bufR_nums (pre := preN NS 4) (x := d0) (z := 4) (r := 3) (by rw [PL.out]; decide) (by decide) (byte0 d0) (by unfold byte0; simp))
              rw [PL.out] at ST
              go_wp2_with (first | (at_builtin; (with_reducible refine gate_dst (N := 32) rfl ?_); refine ev_append_room rfl (.tmp 24) (.tmp 31) 58 5 rfl Try.underlying58 sizeU8 gB (6 + 3) 112 (nums .u8 (bufR (preN NS 4) d0 4 3)) (blk_alloc BQ.out _) (by kernel_rfl) ⟨wr.heap.size, 0, none⟩ 1 1 (nums .u8 [(byte0 d0)]) rfl rfl (World.news_of_block (cs := (nums .u8 [(byte0 d0)]).toArray) (t := 5) (fr := (0, 0)) (heap_alloc_new wr _)) (one_nums _ _) (by omega) (by rw [nums_length, bufR_length (by rw [PL.out]; decide) (by decide)]; omega) ?_; intro w7 hbox hg; have hbx := hbox; rw [ST.out] at hbx; have BQ7 := Aside0.mk hbx; have HQ7 := Aside0.mk ((below_alloc HQ.out _).grown hg (by have := HQ.out.size; simp; omega) (fun q e => by cases e; exact GE.out)); have B67 := Aside0.mk (blk_grown (blk_alloc B6.out _) hg (fun e => N6.out (Option.some.inj e))); clear hbox hbx hg))
              go_roundw
              case rel => exact ⟨3 + 1, by omega, by go_num, rfl, BQ7, B67, HQ7⟩
              case measure => simp [intOf]
          · obtain rfl : r = 4 := by omega
            have BE : Aside0 (wr.heap[gB]? = some (.cells (nums .u8 (bufN NS (4 + 1))).toArray 5 (0, 0))) := ⟨by rw [← bufR_full NS 4 _ _ TK.out]; exact BQ.out⟩
            clear hr hrz BQ
            go_wp2
            go_roundw
            case rel => exact ⟨4 + 1, by omega, by go_num, rfl, BE, HQ⟩
            case measure => simp [intOf]
      · go_wp2_with (first | ((with_reducible refine gate_dst (N := 16) rfl ?_); refine ev_value rfl (.agg #[.int .u32 d1, .int .i64 4]) (by kernel_rfl) ?_) | ((with_reducible refine gate_dst (N := 6) rfl ?_); refine box_event ?hg (N := 6) ?hd (cs := #[.int .u32 0, .int .i64 0]) (t := 77) ?hr ?_; (case hd => rfl); (case hg => rfl); (case hr => first | (go_simp; done) | (go_simp; rfl)); intro g6 hg w5 hbox hb; have N6 := Aside0.mk (show g6 ≠ gB from fun e => by have h1 := blk_lt BB.out; omega); have G6 := Aside0.mk (show w.heap.size ≤ g6 from by have := HB.out.size; omega); have HB5 := Aside0.mk (below_step HB.out hb); have BB5 := Aside0.mk (blk_below BB.out hb); have B65 := Aside0.mk (hbox); clear hb hbox hg) | ((with_reducible refine gate_store (t := 77) (p := 6) (v := .tmp 16) rfl ?_); refine ev_store_row (by rfl) 77 (.tmp 6) (.tmp 16) (by rfl) g6 #[.int .u32 d1, .int .i64 4] (by kernel_rfl) (by kernel_rfl) 77 _ B65.out sizeNum (by rfl) (by simp [Value.oneCell']) ?_; intro w6 hbox hg; have HB6 := Aside0.mk (pw_below_grown HB5.out _ HB5.out.size hg (fun q e => by cases e; exact G6.out)); have BB6 := Aside0.mk (blk_grown BB5.out hg (fun e => N6.out (Option.some.inj e).symm)); have B66 := Aside0.mk (hbox); have p0 := (blk_cell B66.out 0).trans (show (#[.int .u32 d1, .int .i64 4] : Array Value)[0]? = some (.int .u32 d1) from rfl); have p1 := (blk_cell B66.out 1).trans (show (#[.int .u32 d1, .int .i64 4] : Array Value)[1]? = some (.int .i64 4) from rfl); clear hbox hg))
        have hpl : (preN NS 5).length = 10 := by rw [← HNS.out]; rfl
        have htk : NS.take (5 + 1) = NS.take 5 ++ [(d1, 4)] := by rw [← HNS.out]; rfl
        have PL := Aside0.mk hpl
        have TK := Aside0.mk htk
        clear hpl htk p0 p1
        have BI : Aside0 (w6.heap[gB]? = some (.cells (nums .u8 (bufR (preN NS 5) d1 4 0)).toArray 5 (0, 0))) := ⟨by rw [bufR_zero]; exact BB6.out⟩
        go_loopw [4, 7] (fun b kk wq => ∃ r : Nat, r ≤ 4 ∧ kk = .int .i64 ((3 : Int) - r) ∧ b = .slice (some ⟨gB, 0, none⟩) (10 + r) 112 ∧ Aside0 (wq.heap[gB]? = some (.cells (nums .u8 (bufR (preN NS 5) d1 4 r)).toArray 5 (0, 0))) ∧ Aside0 (wq.heap[g6]? = some (.cells #[.int .u32 d1, .int .i64 4] 77 (0, 0))) ∧ Aside0 (Below w.heap.size w wq)) (fun _ kk _ => (intOf kk + 1).toNat)
        case atStart => exact ⟨0, Nat.zero_le _, rfl, rfl, BI, B66, HB6⟩
        case round =>
          obtain ⟨r, hr, rfl, rfl, BQ, B6, HQ⟩ := hrel
          clear BI B66 HB6
          by_cases hrz : r < 4
          · have hcr : r = 0 ∨ r = 1 ∨ r = 2 ∨ r = 3 := by omega
            have q0 := (blk_cell B6.out 0).trans (show (#[.int .u32 d1, .int .i64 4] : Array Value)[0]? = some (.int .u32 d1) from rfl)
            have q1 := (blk_cell B6.out 1).trans (show (#[.int .u32 d1, .int .i64 4] : Array Value)[1]? = some (.int .i64 4) from rfl)
            clear hr hrz
            rcases hcr with rfl | rfl | rfl | rfl
            · have ST := Aside0.mk (bufR_nums (pre := preN NS 5) (x := d1) (z := 4) (r := 0) (by rw [PL.out]; decide) (by decide) (byte24 d1) (by unfold byte24; rfl))
              rw [PL.out] at ST
              go_wp2_with (first | (at_builtin; (with_reducible refine gate_dst (N := 32) rfl ?_); refine ev_append_room rfl (.tmp 24) (.tmp 31) 58 5 rfl Try.underlying58 sizeU8 gB (10 + 0) 112 (nums .u8 (bufR (preN NS 5) d1 4 0)) (blk_alloc BQ.out _) (by kernel_rfl) ⟨wr.heap.size, 0, none⟩ 1 1 (nums .u8 [(byte24 d1)]) rfl rfl (World.news_of_block (cs := (nums .u8 [(byte24 d1)]).toArray) (t := 5) (fr := (0, 0)) (heap_alloc_new wr _)) (one_nums _ _) (by omega) (by rw [nums_length, bufR_length (by rw [PL.out]; decide) (by decide)]; omega) ?_; intro w7 hbox hg; have hbx := hbox; rw [ST.out] at hbx; have BQ7 := Aside0.mk hbx; have HQ7 := Aside0.mk ((below_alloc HQ.out _).grown hg (by have := HQ.out.size; simp; omega) (fun q e => by cases e; exact GE.out)); have B67 := Aside0.mk (blk_grown (blk_alloc B6.out _) hg (fun e => N6.out (Option.some.inj e))); clear hbox hbx hg))
              go_roundw
              case rel => exact ⟨0 + 1, by omega, by go_num, rfl, BQ7, B67, HQ7⟩
              case measure => simp [intOf]
            · have ST := Aside0.mk (bufR_nums (pre := preN NS 5) (x := d1) (z := 4) (r := 1) (by rw [PL.out]; decide) (by decide) (byte16 d1) (by unfold byte16; rfl))
              rw [PL.out] at ST
              go_wp2_with (first | (at_builtin; (with_reducible refine gate_dst (N := 32) rfl ?_); refine ev_append_room rfl (.tmp 24) (.tmp 31) 58 5 rfl Try.underlying58 sizeU8 gB (10 + 1) 112 (nums .u8 (bufR (preN NS 5) d1 4 1)) (blk_alloc BQ.out _) (by kernel_rfl) ⟨wr.heap.size, 0, none⟩ 1 1 (nums .u8 [(byte16 d1)]) rfl rfl (World.news_of_block (cs := (nums .u8 [(byte16 d1)]).toArray) (t := 5) (fr := (0, 0)) (heap_alloc_new wr _)) (one_nums _ _) (by omega) (by rw [nums_length, bufR_length (by rw [PL.out]; decide) (by decide)]; omega) ?_; intro w7 hbox hg; have hbx := hbox; rw [ST.out] at hbx; have BQ7 := Aside0.mk hbx; have HQ7 := Aside0.mk ((below_alloc HQ.out _).grown hg (by have := HQ.out.size; simp; omega) (fun q e => by cases e; exact GE.out)); have B67 := Aside0.mk (blk_grown (blk_alloc B6.out _) hg (fun e => N6.out (Option.some.inj e))); clear hbox hbx hg))
              go_roundw
              case rel => exact ⟨1 + 1, by omega, by go_num, rfl, BQ7, B67, HQ7⟩
              case measure => simp [intOf]
            · have ST := Aside0.mk (bufR_nums (pre := preN NS 5) (x := d1) (z := 4) (r := 2) (by rw [PL.out]; decide) (by decide) (byte8 d1) (by unfold byte8; rfl))
              rw [PL.out] at ST
              go_wp2_with (first | (at_builtin; (with_reducible refine gate_dst (N := 32) rfl ?_); refine ev_append_room rfl (.tmp 24) (.tmp 31) 58 5 rfl Try.underlying58 sizeU8 gB (10 + 2) 112 (nums .u8 (bufR (preN NS 5) d1 4 2)) (blk_alloc BQ.out _) (by kernel_rfl) ⟨wr.heap.size, 0, none⟩ 1 1 (nums .u8 [(byte8 d1)]) rfl rfl (World.news_of_block (cs := (nums .u8 [(byte8 d1)]).toArray) (t := 5) (fr := (0, 0)) (heap_alloc_new wr _)) (one_nums _ _) (by omega) (by rw [nums_length, bufR_length (by rw [PL.out]; decide) (by decide)]; omega) ?_; intro w7 hbox hg; have hbx := hbox; rw [ST.out] at hbx; have BQ7 := Aside0.mk hbx; have HQ7 := Aside0.mk ((below_alloc HQ.out _).grown hg (by have := HQ.out.size; simp; omega) (fun q e => by cases e; exact GE.out)); have B67 := Aside0.mk (blk_grown (blk_alloc B6.out _) hg (fun e => N6.out (Option.some.inj e))); clear hbox hbx hg))
              go_roundw
              case rel => exact ⟨2 + 1, by omega, by go_num, rfl, BQ7, B67, HQ7⟩
              case measure => simp [intOf]
            · have ST := Aside0.mk (bufR_nums (pre := preN NS 5) (x := d1) (z := 4) (r := 3) (by rw [PL.out]; decide) (by decide) (byte0 d1) (by unfold byte0; simp))
              rw [PL.out] at ST
              go_wp2_with (first | (at_builtin; (with_reducible refine gate_dst (N := 32) rfl ?_); refine ev_append_room rfl (.tmp 24) (.tmp 31) 58 5 rfl Try.underlying58 sizeU8 gB (10 + 3) 112 (nums .u8 (bufR (preN NS 5) d1 4 3)) (blk_alloc BQ.out _) (by kernel_rfl) ⟨wr.heap.size, 0, none⟩ 1 1 (nums .u8 [(byte0 d1)]) rfl rfl (World.news_of_block (cs := (nums .u8 [(byte0 d1)]).toArray) (t := 5) (fr := (0, 0)) (heap_alloc_new wr _)) (one_nums _ _) (by omega) (by rw [nums_length, bufR_length (by rw [PL.out]; decide) (by decide)]; omega) ?_; intro w7 hbox hg; have hbx := hbox; rw [ST.out] at hbx; have BQ7 := Aside0.mk hbx; have HQ7 := Aside0.mk ((below_alloc HQ.out _).grown hg (by have := HQ.out.size; simp; omega) (fun q e => by cases e; exact GE.out)); have B67 := Aside0.mk (blk_grown (blk_alloc B6.out _) hg (fun e => N6.out (Option.some.inj e))); clear hbox hbx hg))
              go_roundw
              case rel => exact ⟨3 + 1, by omega, by go_num, rfl, BQ7, B67, HQ7⟩
              case measure => simp [intOf]
          · obtain rfl : r = 4 := by omega
            have BE : Aside0 (wr.heap[gB]? = some (.cells (nums .u8 (bufN NS (5 + 1))).toArray 5 (0, 0))) := ⟨by rw [← bufR_full NS 5 _ _ TK.out]; exact BQ.out⟩
            clear hr hrz BQ
            go_wp2
            go_roundw
            case rel => exact ⟨5 + 1, by omega, by go_num, rfl, BE, HQ⟩
            case measure => simp [intOf]
      · go_wp2_with (first | ((with_reducible refine gate_dst (N := 16) rfl ?_); refine ev_value rfl (.agg #[.int .u32 d2, .int .i64 4]) (by kernel_rfl) ?_) | ((with_reducible refine gate_dst (N := 6) rfl ?_); refine box_event ?hg (N := 6) ?hd (cs := #[.int .u32 0, .int .i64 0]) (t := 77) ?hr ?_; (case hd => rfl); (case hg => rfl); (case hr => first | (go_simp; done) | (go_simp; rfl)); intro g6 hg w5 hbox hb; have N6 := Aside0.mk (show g6 ≠ gB from fun e => by have h1 := blk_lt BB.out; omega); have G6 := Aside0.mk (show w.heap.size ≤ g6 from by have := HB.out.size; omega); have HB5 := Aside0.mk (below_step HB.out hb); have BB5 := Aside0.mk (blk_below BB.out hb); have B65 := Aside0.mk (hbox); clear hb hbox hg) | ((with_reducible refine gate_store (t := 77) (p := 6) (v := .tmp 16) rfl ?_); refine ev_store_row (by rfl) 77 (.tmp 6) (.tmp 16) (by rfl) g6 #[.int .u32 d2, .int .i64 4] (by kernel_rfl) (by kernel_rfl) 77 _ B65.out sizeNum (by rfl) (by simp [Value.oneCell']) ?_; intro w6 hbox hg; have HB6 := Aside0.mk (pw_below_grown HB5.out _ HB5.out.size hg (fun q e => by cases e; exact G6.out)); have BB6 := Aside0.mk (blk_grown BB5.out hg (fun e => N6.out (Option.some.inj e).symm)); have B66 := Aside0.mk (hbox); have p0 := (blk_cell B66.out 0).trans (show (#[.int .u32 d2, .int .i64 4] : Array Value)[0]? = some (.int .u32 d2) from rfl); have p1 := (blk_cell B66.out 1).trans (show (#[.int .u32 d2, .int .i64 4] : Array Value)[1]? = some (.int .i64 4) from rfl); clear hbox hg))
        have hpl : (preN NS 6).length = 14 := by rw [← HNS.out]; rfl
        have htk : NS.take (6 + 1) = NS.take 6 ++ [(d2, 4)] := by rw [← HNS.out]; rfl
        have PL := Aside0.mk hpl
        have TK := Aside0.mk htk
        clear hpl htk p0 p1
        have BI : Aside0 (w6.heap[gB]? = some (.cells (nums .u8 (bufR (preN NS 6) d2 4 0)).toArray 5 (0, 0))) := ⟨by rw [bufR_zero]; exact BB6.out⟩
        go_loopw [4, 7] (fun b kk wq => ∃ r : Nat, r ≤ 4 ∧ kk = .int .i64 ((3 : Int) - r) ∧ b = .slice (some ⟨gB, 0, none⟩) (14 + r) 112 ∧ Aside0 (wq.heap[gB]? = some (.cells (nums .u8 (bufR (preN NS 6) d2 4 r)).toArray 5 (0, 0))) ∧ Aside0 (wq.heap[g6]? = some (.cells #[.int .u32 d2, .int .i64 4] 77 (0, 0))) ∧ Aside0 (Below w.heap.size w wq)) (fun _ kk _ => (intOf kk + 1).toNat)
        case atStart => exact ⟨0, Nat.zero_le _, rfl, rfl, BI, B66, HB6⟩
        case round =>
          obtain ⟨r, hr, rfl, rfl, BQ, B6, HQ⟩ := hrel
          clear BI B66 HB6
          by_cases hrz : r < 4
          · have hcr : r = 0 ∨ r = 1 ∨ r = 2 ∨ r = 3 := by omega
            have q0 := (blk_cell B6.out 0).trans (show (#[.int .u32 d2, .int .i64 4] : Array Value)[0]? = some (.int .u32 d2) from rfl)
            have q1 := (blk_cell B6.out 1).trans (show (#[.int .u32 d2, .int .i64 4] : Array Value)[1]? = some (.int .i64 4) from rfl)
            clear hr hrz
            rcases hcr with rfl | rfl | rfl | rfl
            · have ST := Aside0.mk (bufR_nums (pre := preN NS 6) (x := d2) (z := 4) (r := 0) (by rw [PL.out]; decide) (by decide) (byte24 d2) (by unfold byte24; rfl))
              rw [PL.out] at ST
              go_wp2_with (first | (at_builtin; (with_reducible refine gate_dst (N := 32) rfl ?_); refine ev_append_room rfl (.tmp 24) (.tmp 31) 58 5 rfl Try.underlying58 sizeU8 gB (14 + 0) 112 (nums .u8 (bufR (preN NS 6) d2 4 0)) (blk_alloc BQ.out _) (by kernel_rfl) ⟨wr.heap.size, 0, none⟩ 1 1 (nums .u8 [(byte24 d2)]) rfl rfl (World.news_of_block (cs := (nums .u8 [(byte24 d2)]).toArray) (t := 5) (fr := (0, 0)) (heap_alloc_new wr _)) (one_nums _ _) (by omega) (by rw [nums_length, bufR_length (by rw [PL.out]; decide) (by decide)]; omega) ?_; intro w7 hbox hg; have hbx := hbox; rw [ST.out] at hbx; have BQ7 := Aside0.mk hbx; have HQ7 := Aside0.mk ((below_alloc HQ.out _).grown hg (by have := HQ.out.size; simp; omega) (fun q e => by cases e; exact GE.out)); have B67 := Aside0.mk (blk_grown (blk_alloc B6.out _) hg (fun e => N6.out (Option.some.inj e))); clear hbox hbx hg))
              go_roundw
              case rel => exact ⟨0 + 1, by omega, by go_num, rfl, BQ7, B67, HQ7⟩
              case measure => simp [intOf]
            · have ST := Aside0.mk (bufR_nums (pre := preN NS 6) (x := d2) (z := 4) (r := 1) (by rw [PL.out]; decide) (by decide) (byte16 d2) (by unfold byte16; rfl))
              rw [PL.out] at ST
              go_wp2_with (first | (at_builtin; (with_reducible refine gate_dst (N := 32) rfl ?_); refine ev_append_room rfl (.tmp 24) (.tmp 31) 58 5 rfl Try.underlying58 sizeU8 gB (14 + 1) 112 (nums .u8 (bufR (preN NS 6) d2 4 1)) (blk_alloc BQ.out _) (by kernel_rfl) ⟨wr.heap.size, 0, none⟩ 1 1 (nums .u8 [(byte16 d2)]) rfl rfl (World.news_of_block (cs := (nums .u8 [(byte16 d2)]).toArray) (t := 5) (fr := (0, 0)) (heap_alloc_new wr _)) (one_nums _ _) (by omega) (by rw [nums_length, bufR_length (by rw [PL.out]; decide) (by decide)]; omega) ?_; intro w7 hbox hg; have hbx := hbox; rw [ST.out] at hbx; have BQ7 := Aside0.mk hbx; have HQ7 := Aside0.mk ((below_alloc HQ.out _).grown hg (by have := HQ.out.size; simp; omega) (fun q e => by cases e; exact GE.out)); have B67 := Aside0.mk (blk_grown (blk_alloc B6.out _) hg (fun e => N6.out (Option.some.inj e))); clear hbox hbx hg))
              go_roundw
              case rel => exact ⟨1 + 1, by omega, by go_num, rfl, BQ7, B67, HQ7⟩
              case measure => simp [intOf]
            · have ST := Aside0.mk (bufR_nums (pre := preN NS 6) (x := d2) (z := 4) (r := 2) (by rw [PL.out]; decide) (by decide) (byte8 d2) (by unfold byte8; rfl))
              rw [PL.out] at ST
              go_wp2_with (first | (at_builtin; (with_reducible refine gate_dst (N := 32) rfl ?_); refine ev_append_room rfl (.tmp 24) (.tmp 31) 58 5 rfl Try.underlying58 sizeU8 gB (14 + 2) 112 (nums .u8 (bufR (preN NS 6) d2 4 2)) (blk_alloc BQ.out _) (by kernel_rfl) ⟨wr.heap.size, 0, none⟩ 1 1 (nums .u8 [(byte8 d2)]) rfl rfl (World.news_of_block (cs := (nums .u8 [(byte8 d2)]).toArray) (t := 5) (fr := (0, 0)) (heap_alloc_new wr _)) (one_nums _ _) (by omega) (by rw [nums_length, bufR_length (by rw [PL.out]; decide) (by decide)]; omega) ?_; intro w7 hbox hg; have hbx := hbox; rw [ST.out] at hbx; have BQ7 := Aside0.mk hbx; have HQ7 := Aside0.mk ((below_alloc HQ.out _).grown hg (by have := HQ.out.size; simp; omega) (fun q e => by cases e; exact GE.out)); have B67 := Aside0.mk (blk_grown (blk_alloc B6.out _) hg (fun e => N6.out (Option.some.inj e))); clear hbox hbx hg))
              go_roundw
              case rel => exact ⟨2 + 1, by omega, by go_num, rfl, BQ7, B67, HQ7⟩
              case measure => simp [intOf]
            · have ST := Aside0.mk (bufR_nums (pre := preN NS 6) (x := d2) (z := 4) (r := 3) (by rw [PL.out]; decide) (by decide) (byte0 d2) (by unfold byte0; simp))
              rw [PL.out] at ST
              go_wp2_with (first | (at_builtin; (with_reducible refine gate_dst (N := 32) rfl ?_); refine ev_append_room rfl (.tmp 24) (.tmp 31) 58 5 rfl Try.underlying58 sizeU8 gB (14 + 3) 112 (nums .u8 (bufR (preN NS 6) d2 4 3)) (blk_alloc BQ.out _) (by kernel_rfl) ⟨wr.heap.size, 0, none⟩ 1 1 (nums .u8 [(byte0 d2)]) rfl rfl (World.news_of_block (cs := (nums .u8 [(byte0 d2)]).toArray) (t := 5) (fr := (0, 0)) (heap_alloc_new wr _)) (one_nums _ _) (by omega) (by rw [nums_length, bufR_length (by rw [PL.out]; decide) (by decide)]; omega) ?_; intro w7 hbox hg; have hbx := hbox; rw [ST.out] at hbx; have BQ7 := Aside0.mk hbx; have HQ7 := Aside0.mk ((below_alloc HQ.out _).grown hg (by have := HQ.out.size; simp; omega) (fun q e => by cases e; exact GE.out)); have B67 := Aside0.mk (blk_grown (blk_alloc B6.out _) hg (fun e => N6.out (Option.some.inj e))); clear hbox hbx hg))
              go_roundw
              case rel => exact ⟨3 + 1, by omega, by go_num, rfl, BQ7, B67, HQ7⟩
              case measure => simp [intOf]
          · obtain rfl : r = 4 := by omega
            have BE : Aside0 (wr.heap[gB]? = some (.cells (nums .u8 (bufN NS (6 + 1))).toArray 5 (0, 0))) := ⟨by rw [← bufR_full NS 6 _ _ TK.out]; exact BQ.out⟩
            clear hr hrz BQ
            go_wp2
            go_roundw
            case rel => exact ⟨6 + 1, by omega, by go_num, rfl, BE, HQ⟩
            case measure => simp [intOf]
      · go_wp2_with (first | ((with_reducible refine gate_dst (N := 16) rfl ?_); refine ev_value rfl (.agg #[.int .u32 d3, .int .i64 4]) (by kernel_rfl) ?_) | ((with_reducible refine gate_dst (N := 6) rfl ?_); refine box_event ?hg (N := 6) ?hd (cs := #[.int .u32 0, .int .i64 0]) (t := 77) ?hr ?_; (case hd => rfl); (case hg => rfl); (case hr => first | (go_simp; done) | (go_simp; rfl)); intro g6 hg w5 hbox hb; have N6 := Aside0.mk (show g6 ≠ gB from fun e => by have h1 := blk_lt BB.out; omega); have G6 := Aside0.mk (show w.heap.size ≤ g6 from by have := HB.out.size; omega); have HB5 := Aside0.mk (below_step HB.out hb); have BB5 := Aside0.mk (blk_below BB.out hb); have B65 := Aside0.mk (hbox); clear hb hbox hg) | ((with_reducible refine gate_store (t := 77) (p := 6) (v := .tmp 16) rfl ?_); refine ev_store_row (by rfl) 77 (.tmp 6) (.tmp 16) (by rfl) g6 #[.int .u32 d3, .int .i64 4] (by kernel_rfl) (by kernel_rfl) 77 _ B65.out sizeNum (by rfl) (by simp [Value.oneCell']) ?_; intro w6 hbox hg; have HB6 := Aside0.mk (pw_below_grown HB5.out _ HB5.out.size hg (fun q e => by cases e; exact G6.out)); have BB6 := Aside0.mk (blk_grown BB5.out hg (fun e => N6.out (Option.some.inj e).symm)); have B66 := Aside0.mk (hbox); have p0 := (blk_cell B66.out 0).trans (show (#[.int .u32 d3, .int .i64 4] : Array Value)[0]? = some (.int .u32 d3) from rfl); have p1 := (blk_cell B66.out 1).trans (show (#[.int .u32 d3, .int .i64 4] : Array Value)[1]? = some (.int .i64 4) from rfl); clear hbox hg))
        have hpl : (preN NS 7).length = 18 := by rw [← HNS.out]; rfl
        have htk : NS.take (7 + 1) = NS.take 7 ++ [(d3, 4)] := by rw [← HNS.out]; rfl
        have PL := Aside0.mk hpl
        have TK := Aside0.mk htk
        clear hpl htk p0 p1
        have BI : Aside0 (w6.heap[gB]? = some (.cells (nums .u8 (bufR (preN NS 7) d3 4 0)).toArray 5 (0, 0))) := ⟨by rw [bufR_zero]; exact BB6.out⟩
        go_loopw [4, 7] (fun b kk wq => ∃ r : Nat, r ≤ 4 ∧ kk = .int .i64 ((3 : Int) - r) ∧ b = .slice (some ⟨gB, 0, none⟩) (18 + r) 112 ∧ Aside0 (wq.heap[gB]? = some (.cells (nums .u8 (bufR (preN NS 7) d3 4 r)).toArray 5 (0, 0))) ∧ Aside0 (wq.heap[g6]? = some (.cells #[.int .u32 d3, .int .i64 4] 77 (0, 0))) ∧ Aside0 (Below w.heap.size w wq)) (fun _ kk _ => (intOf kk + 1).toNat)
        case atStart => exact ⟨0, Nat.zero_le _, rfl, rfl, BI, B66, HB6⟩
        case round =>
          obtain ⟨r, hr, rfl, rfl, BQ, B6, HQ⟩ := hrel
          clear BI B66 HB6
          by_cases hrz : r < 4
          · have hcr : r = 0 ∨ r = 1 ∨ r = 2 ∨ r = 3 := by omega
            have q0 := (blk_cell B6.out 0).trans (show (#[.int .u32 d3, .int .i64 4] : Array Value)[0]? = some (.int .u32 d3) from rfl)
            have q1 := (blk_cell B6.out 1).trans (show (#[.int .u32 d3, .int .i64 4] : Array Value)[1]? = some (.int .i64 4) from rfl)
            clear hr hrz
            rcases hcr with rfl | rfl | rfl | rfl
            · have ST := Aside0.mk (bufR_nums (pre := preN NS 7) (x := d3) (z := 4) (r := 0) (by rw [PL.out]; decide) (by decide) (byte24 d3) (by unfold byte24; rfl))
              rw [PL.out] at ST
              go_wp2_with (first | (at_builtin; (with_reducible refine gate_dst (N := 32) rfl ?_); refine ev_append_room rfl (.tmp 24) (.tmp 31) 58 5 rfl Try.underlying58 sizeU8 gB (18 + 0) 112 (nums .u8 (bufR (preN NS 7) d3 4 0)) (blk_alloc BQ.out _) (by kernel_rfl) ⟨wr.heap.size, 0, none⟩ 1 1 (nums .u8 [(byte24 d3)]) rfl rfl (World.news_of_block (cs := (nums .u8 [(byte24 d3)]).toArray) (t := 5) (fr := (0, 0)) (heap_alloc_new wr _)) (one_nums _ _) (by omega) (by rw [nums_length, bufR_length (by rw [PL.out]; decide) (by decide)]; omega) ?_; intro w7 hbox hg; have hbx := hbox; rw [ST.out] at hbx; have BQ7 := Aside0.mk hbx; have HQ7 := Aside0.mk ((below_alloc HQ.out _).grown hg (by have := HQ.out.size; simp; omega) (fun q e => by cases e; exact GE.out)); have B67 := Aside0.mk (blk_grown (blk_alloc B6.out _) hg (fun e => N6.out (Option.some.inj e))); clear hbox hbx hg))
              go_roundw
              case rel => exact ⟨0 + 1, by omega, by go_num, rfl, BQ7, B67, HQ7⟩
              case measure => simp [intOf]
            · have ST := Aside0.mk (bufR_nums (pre := preN NS 7) (x := d3) (z := 4) (r := 1) (by rw [PL.out]; decide) (by decide) (byte16 d3) (by unfold byte16; rfl))
              rw [PL.out] at ST
              go_wp2_with (first | (at_builtin; (with_reducible refine gate_dst (N := 32) rfl ?_); refine ev_append_room rfl (.tmp 24) (.tmp 31) 58 5 rfl Try.underlying58 sizeU8 gB (18 + 1) 112 (nums .u8 (bufR (preN NS 7) d3 4 1)) (blk_alloc BQ.out _) (by kernel_rfl) ⟨wr.heap.size, 0, none⟩ 1 1 (nums .u8 [(byte16 d3)]) rfl rfl (World.news_of_block (cs := (nums .u8 [(byte16 d3)]).toArray) (t := 5) (fr := (0, 0)) (heap_alloc_new wr _)) (one_nums _ _) (by omega) (by rw [nums_length, bufR_length (by rw [PL.out]; decide) (by decide)]; omega) ?_; intro w7 hbox hg; have hbx := hbox; rw [ST.out] at hbx; have BQ7 := Aside0.mk hbx; have HQ7 := Aside0.mk ((below_alloc HQ.out _).grown hg (by have := HQ.out.size; simp; omega) (fun q e => by cases e; exact GE.out)); have B67 := Aside0.mk (blk_grown (blk_alloc B6.out _) hg (fun e => N6.out (Option.some.inj e))); clear hbox hbx hg))
              go_roundw
              case rel => exact ⟨1 + 1, by omega, by go_num, rfl, BQ7, B67, HQ7⟩
              case measure => simp [intOf]
            · have ST := Aside0.mk (bufR_nums (pre := preN NS 7) (x := d3) (z := 4) (r := 2) (by rw [PL.out]; decide) (by decide) (byte8 d3) (by unfold byte8; rfl))
              rw [PL.out] at ST
              go_wp2_with (first | (at_builtin; (with_reducible refine gate_dst (N := 32) rfl ?_); refine ev_append_room rfl (.tmp 24) (.tmp 31) 58 5 rfl Try.underlying58 sizeU8 gB (18 + 2) 112 (nums .u8 (bufR (preN NS 7) d3 4 2)) (blk_alloc BQ.out _) (by kernel_rfl) ⟨wr.heap.size, 0, none⟩ 1 1 (nums .u8 [(byte8 d3)]) rfl rfl (World.news_of_block (cs := (nums .u8 [(byte8 d3)]).toArray) (t := 5) (fr := (0, 0)) (heap_alloc_new wr _)) (one_nums _ _) (by omega) (by rw [nums_length, bufR_length (by rw [PL.out]; decide) (by decide)]; omega) ?_; intro w7 hbox hg; have hbx := hbox; rw [ST.out] at hbx; have BQ7 := Aside0.mk hbx; have HQ7 := Aside0.mk ((below_alloc HQ.out _).grown hg (by have := HQ.out.size; simp; omega) (fun q e => by cases e; exact GE.out)); have B67 := Aside0.mk (blk_grown (blk_alloc B6.out _) hg (fun e => N6.out (Option.some.inj e))); clear hbox hbx hg))
              go_roundw
              case rel => exact ⟨2 + 1, by omega, by go_num, rfl, BQ7, B67, HQ7⟩
              case measure => simp [intOf]
            · have ST := Aside0.mk (bufR_nums (pre := preN NS 7) (x := d3) (z := 4) (r := 3) (by rw [PL.out]; decide) (by decide) (byte0 d3) (by unfold byte0; simp))
              rw [PL.out] at ST
              go_wp2_with (first | (at_builtin; (with_reducible refine gate_dst (N := 32) rfl ?_); refine ev_append_room rfl (.tmp 24) (.tmp 31) 58 5 rfl Try.underlying58 sizeU8 gB (18 + 3) 112 (nums .u8 (bufR (preN NS 7) d3 4 3)) (blk_alloc BQ.out _) (by kernel_rfl) ⟨wr.heap.size, 0, none⟩ 1 1 (nums .u8 [(byte0 d3)]) rfl rfl (World.news_of_block (cs := (nums .u8 [(byte0 d3)]).toArray) (t := 5) (fr := (0, 0)) (heap_alloc_new wr _)) (one_nums _ _) (by omega) (by rw [nums_length, bufR_length (by rw [PL.out]; decide) (by decide)]; omega) ?_; intro w7 hbox hg; have hbx := hbox; rw [ST.out] at hbx; have BQ7 := Aside0.mk hbx; have HQ7 := Aside0.mk ((below_alloc HQ.out _).grown hg (by have := HQ.out.size; simp; omega) (fun q e => by cases e; exact GE.out)); have B67 := Aside0.mk (blk_grown (blk_alloc B6.out _) hg (fun e => N6.out (Option.some.inj e))); clear hbox hbx hg))
              go_roundw
              case rel => exact ⟨3 + 1, by omega, by go_num, rfl, BQ7, B67, HQ7⟩
              case measure => simp [intOf]
          · obtain rfl : r = 4 := by omega
            have BE : Aside0 (wr.heap[gB]? = some (.cells (nums .u8 (bufN NS (7 + 1))).toArray 5 (0, 0))) := ⟨by rw [← bufR_full NS 7 _ _ TK.out]; exact BQ.out⟩
            clear hr hrz BQ
            go_wp2
            go_roundw
            case rel => exact ⟨7 + 1, by omega, by go_num, rfl, BE, HQ⟩
            case measure => simp [intOf]
      · go_wp2_with (first | ((with_reducible refine gate_dst (N := 16) rfl ?_); refine ev_value rfl (.agg #[.int .u32 d4, .int .i64 4]) (by kernel_rfl) ?_) | ((with_reducible refine gate_dst (N := 6) rfl ?_); refine box_event ?hg (N := 6) ?hd (cs := #[.int .u32 0, .int .i64 0]) (t := 77) ?hr ?_; (case hd => rfl); (case hg => rfl); (case hr => first | (go_simp; done) | (go_simp; rfl)); intro g6 hg w5 hbox hb; have N6 := Aside0.mk (show g6 ≠ gB from fun e => by have h1 := blk_lt BB.out; omega); have G6 := Aside0.mk (show w.heap.size ≤ g6 from by have := HB.out.size; omega); have HB5 := Aside0.mk (below_step HB.out hb); have BB5 := Aside0.mk (blk_below BB.out hb); have B65 := Aside0.mk (hbox); clear hb hbox hg) | ((with_reducible refine gate_store (t := 77) (p := 6) (v := .tmp 16) rfl ?_); refine ev_store_row (by rfl) 77 (.tmp 6) (.tmp 16) (by rfl) g6 #[.int .u32 d4, .int .i64 4] (by kernel_rfl) (by kernel_rfl) 77 _ B65.out sizeNum (by rfl) (by simp [Value.oneCell']) ?_; intro w6 hbox hg; have HB6 := Aside0.mk (pw_below_grown HB5.out _ HB5.out.size hg (fun q e => by cases e; exact G6.out)); have BB6 := Aside0.mk (blk_grown BB5.out hg (fun e => N6.out (Option.some.inj e).symm)); have B66 := Aside0.mk (hbox); have p0 := (blk_cell B66.out 0).trans (show (#[.int .u32 d4, .int .i64 4] : Array Value)[0]? = some (.int .u32 d4) from rfl); have p1 := (blk_cell B66.out 1).trans (show (#[.int .u32 d4, .int .i64 4] : Array Value)[1]? = some (.int .i64 4) from rfl); clear hbox hg))
        have hpl : (preN NS 8).length = 22 := by rw [← HNS.out]; rfl
        have htk : NS.take (8 + 1) = NS.take 8 ++ [(d4, 4)] := by rw [← HNS.out]; rfl
        have PL := Aside0.mk hpl
        have TK := Aside0.mk htk
        clear hpl htk p0 p1
        have BI : Aside0 (w6.heap[gB]? = some (.cells (nums .u8 (bufR (preN NS 8) d4 4 0)).toArray 5 (0, 0))) := ⟨by rw [bufR_zero]; exact BB6.out⟩
        go_loopw [4, 7] (fun b kk wq => ∃ r : Nat, r ≤ 4 ∧ kk = .int .i64 ((3 : Int) - r) ∧ b = .slice (some ⟨gB, 0, none⟩) (22 + r) 112 ∧ Aside0 (wq.heap[gB]? = some (.cells (nums .u8 (bufR (preN NS 8) d4 4 r)).toArray 5 (0, 0))) ∧ Aside0 (wq.heap[g6]? = some (.cells #[.int .u32 d4, .int .i64 4] 77 (0, 0))) ∧ Aside0 (Below w.heap.size w wq)) (fun _ kk _ => (intOf kk + 1).toNat)
        case atStart => exact ⟨0, Nat.zero_le _, rfl, rfl, BI, B66, HB6⟩
        case round =>
          obtain ⟨r, hr, rfl, rfl, BQ, B6, HQ⟩ := hrel
          clear BI B66 HB6
          by_cases hrz : r < 4
          · have hcr : r = 0 ∨ r = 1 ∨ r = 2 ∨ r = 3 := by omega
            have q0 := (blk_cell B6.out 0).trans (show (#[.int .u32 d4, .int .i64 4] : Array Value)[0]? = some (.int .u32 d4) from rfl)
            have q1 := (blk_cell B6.out 1).trans (show (#[.int .u32 d4, .int .i64 4] : Array Value)[1]? = some (.int .i64 4) from rfl)
            clear hr hrz
            rcases hcr with rfl | rfl | rfl | rfl
            · have ST := Aside0.mk (bufR_nums (pre := preN NS 8) (x := d4) (z := 4) (r := 0) (by rw [PL.out]; decide) (by decide) (byte24 d4) (by unfold byte24; rfl))
              rw [PL.out] at ST
              go_wp2_with (first | (at_builtin; (with_reducible refine gate_dst (N := 32) rfl ?_); refine ev_append_room rfl (.tmp 24) (.tmp 31) 58 5 rfl Try.underlying58 sizeU8 gB (22 + 0) 112 (nums .u8 (bufR (preN NS 8) d4 4 0)) (blk_alloc BQ.out _) (by kernel_rfl) ⟨wr.heap.size, 0, none⟩ 1 1 (nums .u8 [(byte24 d4)]) rfl rfl (World.news_of_block (cs := (nums .u8 [(byte24 d4)]).toArray) (t := 5) (fr := (0, 0)) (heap_alloc_new wr _)) (one_nums _ _) (by omega) (by rw [nums_length, bufR_length (by rw [PL.out]; decide) (by decide)]; omega) ?_; intro w7 hbox hg; have hbx := hbox; rw [ST.out] at hbx; have BQ7 := Aside0.mk hbx; have HQ7 := Aside0.mk ((below_alloc HQ.out _).grown hg (by have := HQ.out.size; simp; omega) (fun q e => by cases e; exact GE.out)); have B67 := Aside0.mk (blk_grown (blk_alloc B6.out _) hg (fun e => N6.out (Option.some.inj e))); clear hbox hbx hg))
              go_roundw
              case rel => exact ⟨0 + 1, by omega, by go_num, rfl, BQ7, B67, HQ7⟩
              case measure => simp [intOf]
            · have ST := Aside0.mk (bufR_nums (pre := preN NS 8) (x := d4) (z := 4) (r := 1) (by rw [PL.out]; decide) (by decide) (byte16 d4) (by unfold byte16; rfl))
              rw [PL.out] at ST
              go_wp2_with (first | (at_builtin; (with_reducible refine gate_dst (N := 32) rfl ?_); refine ev_append_room rfl (.tmp 24) (.tmp 31) 58 5 rfl Try.underlying58 sizeU8 gB (22 + 1) 112 (nums .u8 (bufR (preN NS 8) d4 4 1)) (blk_alloc BQ.out _) (by kernel_rfl) ⟨wr.heap.size, 0, none⟩ 1 1 (nums .u8 [(byte16 d4)]) rfl rfl (World.news_of_block (cs := (nums .u8 [(byte16 d4)]).toArray) (t := 5) (fr := (0, 0)) (heap_alloc_new wr _)) (one_nums _ _) (by omega) (by rw [nums_length, bufR_length (by rw [PL.out]; decide) (by decide)]; omega) ?_; intro w7 hbox hg; have hbx := hbox; rw [ST.out] at hbx; have BQ7 := Aside0.mk hbx; have HQ7 := Aside0.mk ((below_alloc HQ.out _).grown hg (by have := HQ.out.size; simp; omega) (fun q e => by cases e; exact GE.out)); have B67 := Aside0.mk (blk_grown (blk_alloc B6.out _) hg (fun e => N6.out (Option.some.inj e))); clear hbox hbx hg))
              go_roundw
              case rel => exact ⟨1 + 1, by omega, by go_num, rfl, BQ7, B67, HQ7⟩
              case measure => simp [intOf]
            · have ST := Aside0.mk (bufR_nums (pre := preN NS 8) (x := d4) (z := 4) (r := 2) (by rw [PL.out]; decide) (by decide) (byte8 d4) (by unfold byte8; rfl))
              rw [PL.out] at ST
              go_wp2_with (first | (at_builtin; (with_reducible refine gate_dst (N := 32) rfl ?_); refine ev_append_room rfl (.tmp 24) (.tmp 31) 58 5 rfl Try.underlying58 sizeU8 gB (22 + 2) 112 (nums .u8 (bufR (preN NS 8) d4 4 2)) (blk_alloc BQ.out _) (by kernel_rfl) ⟨wr.heap.size, 0, none⟩ 1 1 (nums .u8 [(byte8 d4)]) rfl rfl (World.news_of_block (cs := (nums .u8 [(byte8 d4)]).toArray) (t := 5) (fr := (0, 0)) (heap_alloc_new wr _)) (one_nums _ _) (by omega) (by rw [nums_length, bufR_length (by rw [PL.out]; decide) (by decide)]; omega) ?_; intro w7 hbox hg; have hbx := hbox; rw [ST.out] at hbx; have BQ7 := Aside0.mk hbx; have HQ7 := Aside0.mk ((below_alloc HQ.out _).grown hg (by have := HQ.out.size; simp; omega) (fun q e => by cases e; exact GE.out)); have B67 := Aside0.mk (blk_grown (blk_alloc B6.out _) hg (fun e => N6.out (Option.some.inj e))); clear hbox hbx hg))
              go_roundw
              case rel => exact ⟨2 + 1, by omega, by go_num, rfl, BQ7, B67, HQ7⟩
              case measure => simp [intOf]
            · have ST := Aside0.mk (bufR_nums (pre := preN NS 8) (x := d4) (z := 4) (r := 3) (by rw [PL.out]; decide) (by decide) (byte0 d4) (by unfold byte0; simp))
              rw [PL.out] at ST
              go_wp2_with (first | (at_builtin; (with_reducible refine gate_dst (N := 32) rfl ?_); refine ev_append_room rfl (.tmp 24) (.tmp 31) 58 5 rfl Try.underlying58 sizeU8 gB (22 + 3) 112 (nums .u8 (bufR (preN NS 8) d4 4 3)) (blk_alloc BQ.out _) (by kernel_rfl) ⟨wr.heap.size, 0, none⟩ 1 1 (nums .u8 [(byte0 d4)]) rfl rfl (World.news_of_block (cs := (nums .u8 [(byte0 d4)]).toArray) (t := 5) (fr := (0, 0)) (heap_alloc_new wr _)) (one_nums _ _) (by omega) (by rw [nums_length, bufR_length (by rw [PL.out]; decide) (by decide)]; omega) ?_; intro w7 hbox hg; have hbx := hbox; rw [ST.out] at hbx; have BQ7 := Aside0.mk hbx; have HQ7 := Aside0.mk ((below_alloc HQ.out _).grown hg (by have := HQ.out.size; simp; omega) (fun q e => by cases e; exact GE.out)); have B67 := Aside0.mk (blk_grown (blk_alloc B6.out _) hg (fun e => N6.out (Option.some.inj e))); clear hbox hbx hg))
              go_roundw
              case rel => exact ⟨3 + 1, by omega, by go_num, rfl, BQ7, B67, HQ7⟩
              case measure => simp [intOf]
          · obtain rfl : r = 4 := by omega
            have BE : Aside0 (wr.heap[gB]? = some (.cells (nums .u8 (bufN NS (8 + 1))).toArray 5 (0, 0))) := ⟨by rw [← bufR_full NS 8 _ _ TK.out]; exact BQ.out⟩
            clear hr hrz BQ
            go_wp2
            go_roundw
            case rel => exact ⟨8 + 1, by omega, by go_num, rfl, BE, HQ⟩
            case measure => simp [intOf]
      · go_wp2_with (first | ((with_reducible refine gate_dst (N := 16) rfl ?_); refine ev_value rfl (.agg #[.int .u32 d5, .int .i64 4]) (by kernel_rfl) ?_) | ((with_reducible refine gate_dst (N := 6) rfl ?_); refine box_event ?hg (N := 6) ?hd (cs := #[.int .u32 0, .int .i64 0]) (t := 77) ?hr ?_; (case hd => rfl); (case hg => rfl); (case hr => first | (go_simp; done) | (go_simp; rfl)); intro g6 hg w5 hbox hb; have N6 := Aside0.mk (show g6 ≠ gB from fun e => by have h1 := blk_lt BB.out; omega); have G6 := Aside0.mk (show w.heap.size ≤ g6 from by have := HB.out.size; omega); have HB5 := Aside0.mk (below_step HB.out hb); have BB5 := Aside0.mk (blk_below BB.out hb); have B65 := Aside0.mk (hbox); clear hb hbox hg) | ((with_reducible refine gate_store (t := 77) (p := 6) (v := .tmp 16) rfl ?_); refine ev_store_row (by rfl) 77 (.tmp 6) (.tmp 16) (by rfl) g6 #[.int .u32 d5, .int .i64 4] (by kernel_rfl) (by kernel_rfl) 77 _ B65.out sizeNum (by rfl) (by simp [Value.oneCell']) ?_; intro w6 hbox hg; have HB6 := Aside0.mk (pw_below_grown HB5.out _ HB5.out.size hg (fun q e => by cases e; exact G6.out)); have BB6 := Aside0.mk (blk_grown BB5.out hg (fun e => N6.out (Option.some.inj e).symm)); have B66 := Aside0.mk (hbox); have p0 := (blk_cell B66.out 0).trans (show (#[.int .u32 d5, .int .i64 4] : Array Value)[0]? = some (.int .u32 d5) from rfl); have p1 := (blk_cell B66.out 1).trans (show (#[.int .u32 d5, .int .i64 4] : Array Value)[1]? = some (.int .i64 4) from rfl); clear hbox hg))
        have hpl : (preN NS 9).length = 26 := by rw [← HNS.out]; rfl
        have htk : NS.take (9 + 1) = NS.take 9 ++ [(d5, 4)] := by rw [← HNS.out]; rfl
        have PL := Aside0.mk hpl
        have TK := Aside0.mk htk
        clear hpl htk p0 p1
        have BI : Aside0 (w6.heap[gB]? = some (.cells (nums .u8 (bufR (preN NS 9) d5 4 0)).toArray 5 (0, 0))) := ⟨by rw [bufR_zero]; exact BB6.out⟩
        go_loopw [4, 7] (fun b kk wq => ∃ r : Nat, r ≤ 4 ∧ kk = .int .i64 ((3 : Int) - r) ∧ b = .slice (some ⟨gB, 0, none⟩) (26 + r) 112 ∧ Aside0 (wq.heap[gB]? = some (.cells (nums .u8 (bufR (preN NS 9) d5 4 r)).toArray 5 (0, 0))) ∧ Aside0 (wq.heap[g6]? = some (.cells #[.int .u32 d5, .int .i64 4] 77 (0, 0))) ∧ Aside0 (Below w.heap.size w wq)) (fun _ kk _ => (intOf kk + 1).toNat)
        case atStart => exact ⟨0, Nat.zero_le _, rfl, rfl, BI, B66, HB6⟩
        case round =>
          obtain ⟨r, hr, rfl, rfl, BQ, B6, HQ⟩ := hrel
          clear BI B66 HB6
          by_cases hrz : r < 4
          · have hcr : r = 0 ∨ r = 1 ∨ r = 2 ∨ r = 3 := by omega
            have q0 := (blk_cell B6.out 0).trans (show (#[.int .u32 d5, .int .i64 4] : Array Value)[0]? = some (.int .u32 d5) from rfl)
            have q1 := (blk_cell B6.out 1).trans (show (#[.int .u32 d5, .int .i64 4] : Array Value)[1]? = some (.int .i64 4) from rfl)
            clear hr hrz
            rcases hcr with rfl | rfl | rfl | rfl
            · have ST := Aside0.mk (bufR_nums (pre := preN NS 9) (x := d5) (z := 4) (r := 0) (by rw [PL.out]; decide) (by decide) (byte24 d5) (by unfold byte24; rfl))
              rw [PL.out] at ST
              go_wp2_with (first | (at_builtin; (with_reducible refine gate_dst (N := 32) rfl ?_); refine ev_append_room rfl (.tmp 24) (.tmp 31) 58 5 rfl Try.underlying58 sizeU8 gB (26 + 0) 112 (nums .u8 (bufR (preN NS 9) d5 4 0)) (blk_alloc BQ.out _) (by kernel_rfl) ⟨wr.heap.size, 0, none⟩ 1 1 (nums .u8 [(byte24 d5)]) rfl rfl (World.news_of_block (cs := (nums .u8 [(byte24 d5)]).toArray) (t := 5) (fr := (0, 0)) (heap_alloc_new wr _)) (one_nums _ _) (by omega) (by rw [nums_length, bufR_length (by rw [PL.out]; decide) (by decide)]; omega) ?_; intro w7 hbox hg; have hbx := hbox; rw [ST.out] at hbx; have BQ7 := Aside0.mk hbx; have HQ7 := Aside0.mk ((below_alloc HQ.out _).grown hg (by have := HQ.out.size; simp; omega) (fun q e => by cases e; exact GE.out)); have B67 := Aside0.mk (blk_grown (blk_alloc B6.out _) hg (fun e => N6.out (Option.some.inj e))); clear hbox hbx hg))
              go_roundw
              case rel => exact ⟨0 + 1, by omega, by go_num, rfl, BQ7, B67, HQ7⟩
              case measure => simp [intOf]
            · have ST := Aside0.mk (bufR_nums (pre := preN NS 9) (x := d5) (z := 4) (r := 1) (by rw [PL.out]; decide) (by decide) (byte16 d5) (by unfold byte16; rfl))
              rw [PL.out] at ST
              go_wp2_with (first | (at_builtin; (with_reducible refine gate_dst (N := 32) rfl ?_); refine ev_append_room rfl (.tmp 24) (.tmp 31) 58 5 rfl Try.underlying58 sizeU8 gB (26 + 1) 112 (nums .u8 (bufR (preN NS 9) d5 4 1)) (blk_alloc BQ.out _) (by kernel_rfl) ⟨wr.heap.size, 0, none⟩ 1 1 (nums .u8 [(byte16 d5)]) rfl rfl (World.news_of_block (cs := (nums .u8 [(byte16 d5)]).toArray) (t := 5) (fr := (0, 0)) (heap_alloc_new wr _)) (one_nums _ _) (by omega) (by rw [nums_length, bufR_length (by rw [PL.out]; decide) (by decide)]; omega) ?_; intro w7 hbox hg; have hbx := hbox; rw [ST.out] at hbx; have BQ7 := Aside0.mk hbx; have HQ7 := Aside0.mk ((below_alloc HQ.out _).grown hg (by have := HQ.out.size; simp; omega) (fun q e => by cases e; exact GE.out)); have B67 := Aside0.mk (blk_grown (blk_alloc B6.out _) hg (fun e => N6.out (Option.some.inj e))); clear hbox hbx hg))
              go_roundw
              case rel => exact ⟨1 + 1, by omega, by go_num, rfl, BQ7, B67, HQ7⟩
              case measure => simp [intOf]
            · have ST := Aside0.mk (bufR_nums (pre := preN NS 9) (x := d5) (z := 4) (r := 2) (by rw [PL.out]; decide) (by decide) (byte8 d5) (by unfold byte8; rfl))
              rw [PL.out] at ST
              go_wp2_with (first | (at_builtin; (with_reducible refine gate_dst (N := 32) rfl ?_); refine ev_append_room rfl (.tmp 24) (.tmp 31) 58 5 rfl Try.underlying58 sizeU8 gB (26 + 2) 112 (nums .u8 (bufR (preN NS 9) d5 4 2)) (blk_alloc BQ.out _) (by kernel_rfl) ⟨wr.heap.size, 0, none⟩ 1 1 (nums .u8 [(byte8 d5)]) rfl rfl (World.news_of_block (cs := (nums .u8 [(byte8 d5)]).toArray) (t := 5) (fr := (0, 0)) (heap_alloc_new wr _)) (one_nums _ _) (by omega) (by rw [nums_length, bufR_length (by rw [PL.out]; decide) (by decide)]; omega) ?_; intro w7 hbox hg; have hbx := hbox; rw [ST.out] at hbx; have BQ7 := Aside0.mk hbx; have HQ7 := Aside0.mk ((below_alloc HQ.out _).grown hg (by have := HQ.out.size; simp; omega) (fun q e => by cases e; exact GE.out)); have B67 := Aside0.mk (blk_grown (blk_alloc B6.out _) hg (fun e => N6.out (Option.some.inj e))); clear hbox hbx hg))
              go_roundw
              case rel => exact ⟨2 + 1, by omega, by go_num, rfl, BQ7, B67, HQ7⟩
              case measure => simp [intOf]
            · have ST := Aside0.mk (bufR_nums (pre := preN NS 9) (x := d5) (z := 4) (r := 3) (by rw [PL.out]; decide) (by decide) (byte0 d5) (by unfold byte0; simp))
              rw [PL.out] at ST
              go_wp2_with (first | (at_builtin; (with_reducible refine gate_dst (N := 32) rfl ?_); refine ev_append_room rfl (.tmp 24) (.tmp 31) 58 5 rfl Try.underlying58 sizeU8 gB (26 + 3) 112 (nums .u8 (bufR (preN NS 9) d5 4 3)) (blk_alloc BQ.out _) (by kernel_rfl) ⟨wr.heap.size, 0, none⟩ 1 1 (nums .u8 [(byte0 d5)]) rfl rfl (World.news_of_block (cs := (nums .u8 [(byte0 d5)]).toArray) (t := 5) (fr := (0, 0)) (heap_alloc_new wr _)) (one_nums _ _) (by omega) (by rw [nums_length, bufR_length (by rw [PL.out]; decide) (by decide)]; omega) ?_; intro w7 hbox hg; have hbx := hbox; rw [ST.out] at hbx; have BQ7 := Aside0.mk hbx; have HQ7 := Aside0.mk ((below_alloc HQ.out _).grown hg (by have := HQ.out.size; simp; omega) (fun q e => by cases e; exact GE.out)); have B67 := Aside0.mk (blk_grown (blk_alloc B6.out _) hg (fun e => N6.out (Option.some.inj e))); clear hbox hbx hg))
              go_roundw
              case rel => exact ⟨3 + 1, by omega, by go_num, rfl, BQ7, B67, HQ7⟩
              case measure => simp [intOf]
          · obtain rfl : r = 4 := by omega
            have BE : Aside0 (wr.heap[gB]? = some (.cells (nums .u8 (bufN NS (9 + 1))).toArray 5 (0, 0))) := ⟨by rw [← bufR_full NS 9 _ _ TK.out]; exact BQ.out⟩
            clear hr hrz BQ
            go_wp2
            go_roundw
            case rel => exact ⟨9 + 1, by omega, by go_num, rfl, BE, HQ⟩
            case measure => simp [intOf]
      · go_wp2_with (first | ((with_reducible refine gate_dst (N := 16) rfl ?_); refine ev_value rfl (.agg #[.int .u32 p, .int .i64 4]) (by kernel_rfl) ?_) | ((with_reducible refine gate_dst (N := 6) rfl ?_); refine box_event ?hg (N := 6) ?hd (cs := #[.int .u32 0, .int .i64 0]) (t := 77) ?hr ?_; (case hd => rfl); (case hg => rfl); (case hr => first | (go_simp; done) | (go_simp; rfl)); intro g6 hg w5 hbox hb; have N6 := Aside0.mk (show g6 ≠ gB from fun e => by have h1 := blk_lt BB.out; omega); have G6 := Aside0.mk (show w.heap.size ≤ g6 from by have := HB.out.size; omega); have HB5 := Aside0.mk (below_step HB.out hb); have BB5 := Aside0.mk (blk_below BB.out hb); have B65 := Aside0.mk (hbox); clear hb hbox hg) | ((with_reducible refine gate_store (t := 77) (p := 6) (v := .tmp 16) rfl ?_); refine ev_store_row (by rfl) 77 (.tmp 6) (.tmp 16) (by rfl) g6 #[.int .u32 p, .int .i64 4] (by kernel_rfl) (by kernel_rfl) 77 _ B65.out sizeNum (by rfl) (by simp [Value.oneCell']) ?_; intro w6 hbox hg; have HB6 := Aside0.mk (pw_below_grown HB5.out _ HB5.out.size hg (fun q e => by cases e; exact G6.out)); have BB6 := Aside0.mk (blk_grown BB5.out hg (fun e => N6.out (Option.some.inj e).symm)); have B66 := Aside0.mk (hbox); have p0 := (blk_cell B66.out 0).trans (show (#[.int .u32 p, .int .i64 4] : Array Value)[0]? = some (.int .u32 p) from rfl); have p1 := (blk_cell B66.out 1).trans (show (#[.int .u32 p, .int .i64 4] : Array Value)[1]? = some (.int .i64 4) from rfl); clear hbox hg))
        have hpl : (preN NS 10).length = 30 := by rw [← HNS.out]; rfl
        have htk : NS.take (10 + 1) = NS.take 10 ++ [(p, 4)] := by rw [← HNS.out]; rfl
        have PL := Aside0.mk hpl
        have TK := Aside0.mk htk
        clear hpl htk p0 p1
        have BI : Aside0 (w6.heap[gB]? = some (.cells (nums .u8 (bufR (preN NS 10) p 4 0)).toArray 5 (0, 0))) := ⟨by rw [bufR_zero]; exact BB6.out⟩
        go_loopw [4, 7] (fun b kk wq => ∃ r : Nat, r ≤ 4 ∧ kk = .int .i64 ((3 : Int) - r) ∧ b = .slice (some ⟨gB, 0, none⟩) (30 + r) 112 ∧ Aside0 (wq.heap[gB]? = some (.cells (nums .u8 (bufR (preN NS 10) p 4 r)).toArray 5 (0, 0))) ∧ Aside0 (wq.heap[g6]? = some (.cells #[.int .u32 p, .int .i64 4] 77 (0, 0))) ∧ Aside0 (Below w.heap.size w wq)) (fun _ kk _ => (intOf kk + 1).toNat)
        case atStart => exact ⟨0, Nat.zero_le _, rfl, rfl, BI, B66, HB6⟩
        case round =>
          obtain ⟨r, hr, rfl, rfl, BQ, B6, HQ⟩ := hrel
          clear BI B66 HB6
          by_cases hrz : r < 4
          · have hcr : r = 0 ∨ r = 1 ∨ r = 2 ∨ r = 3 := by omega
            have q0 := (blk_cell B6.out 0).trans (show (#[.int .u32 p, .int .i64 4] : Array Value)[0]? = some (.int .u32 p) from rfl)
            have q1 := (blk_cell B6.out 1).trans (show (#[.int .u32 p, .int .i64 4] : Array Value)[1]? = some (.int .i64 4) from rfl)
            clear hr hrz
            rcases hcr with rfl | rfl | rfl | rfl
            · have ST := Aside0.mk (bufR_nums (pre := preN NS 10) (x := p) (z := 4) (r := 0) (by rw [PL.out]; decide) (by decide) (byte24 p) (by unfold byte24; rfl))
              rw [PL.out] at ST
              go_wp2_with (first | (at_builtin; (with_reducible refine gate_dst (N := 32) rfl ?_); refine ev_append_room rfl (.tmp 24) (.tmp 31) 58 5 rfl Try.underlying58 sizeU8 gB (30 + 0) 112 (nums .u8 (bufR (preN NS 10) p 4 0)) (blk_alloc BQ.out _) (by kernel_rfl) ⟨wr.heap.size, 0, none⟩ 1 1 (nums .u8 [(byte24 p)]) rfl rfl (World.news_of_block (cs := (nums .u8 [(byte24 p)]).toArray) (t := 5) (fr := (0, 0)) (heap_alloc_new wr _)) (one_nums _ _) (by omega) (by rw [nums_length, bufR_length (by rw [PL.out]; decide) (by decide)]; omega) ?_; intro w7 hbox hg; have hbx := hbox; rw [ST.out] at hbx; have BQ7 := Aside0.mk hbx; have HQ7 := Aside0.mk ((below_alloc HQ.out _).grown hg (by have := HQ.out.size; simp; omega) (fun q e => by cases e; exact GE.out)); have B67 := Aside0.mk (blk_grown (blk_alloc B6.out _) hg (fun e => N6.out (Option.some.inj e))); clear hbox hbx hg))
              go_roundw
              case rel => exact ⟨0 + 1, by omega, by go_num, rfl, BQ7, B67, HQ7⟩
              case measure => simp [intOf]
            · have ST := Aside0.mk (bufR_nums (pre := preN NS 10) (x := p) (z := 4) (r := 1) (by rw [PL.out]; decide) (by decide) (byte16 p) (by unfold byte16; rfl))
              rw [PL.out] at ST
              go_wp2_with (first | (at_builtin; (with_reducible refine gate_dst (N := 32) rfl ?_); refine ev_append_room rfl (.tmp 24) (.tmp 31) 58 5 rfl Try.underlying58 sizeU8 gB (30 + 1) 112 (nums .u8 (bufR (preN NS 10) p 4 1)) (blk_alloc BQ.out _) (by kernel_rfl) ⟨wr.heap.size, 0, none⟩ 1 1 (nums .u8 [(byte16 p)]) rfl rfl (World.news_of_block (cs := (nums .u8 [(byte16 p)]).toArray) (t := 5) (fr := (0, 0)) (heap_alloc_new wr _)) (one_nums _ _) (by omega) (by rw [nums_length, bufR_length (by rw [PL.out]; decide) (by decide)]; omega) ?_; intro w7 hbox hg; have hbx := hbox; rw [ST.out] at hbx; have BQ7 := Aside0.mk hbx; have HQ7 := Aside0.mk ((below_alloc HQ.out _).grown hg (by have := HQ.out.size; simp; omega) (fun q e => by cases e; exact GE.out)); have B67 := Aside0.mk (blk_grown (blk_alloc B6.out _) hg (fun e => N6.out (Option.some.inj e))); clear hbox hbx hg))
              go_roundw
              case rel => exact ⟨1 + 1, by omega, by go_num, rfl, BQ7, B67, HQ7⟩
              case measure => simp [intOf]
            · have ST := Aside0.mk (bufR_nums (pre := preN NS 10) (x := p) (z := 4) (r := 2) (by rw [PL.out]; decide) (by decide) (byte8 p) (by unfold byte8; rfl))
              rw [PL.out] at ST
              go_wp2_with (first | (at_builtin; (with_reducible refine gate_dst (N := 32) rfl ?_); refine ev_append_room rfl (.tmp 24) (.tmp 31) 58 5 rfl Try.underlying58 sizeU8 gB (30 + 2) 112 (nums .u8 (bufR (preN NS 10) p 4 2)) (blk_alloc BQ.out _) (by kernel_rfl) ⟨wr.heap.size, 0, none⟩ 1 1 (nums .u8 [(byte8 p)]) rfl rfl (World.news_of_block (cs := (nums .u8 [(byte8 p)]).toArray) (t := 5) (fr := (0, 0)) (heap_alloc_new wr _)) (one_nums _ _) (by omega) (by rw [nums_length, bufR_length (by rw [PL.out]; decide) (by decide)]; omega) ?_; intro w7 hbox hg; have hbx := hbox; rw [ST.out] at hbx; have BQ7 := Aside0.mk hbx; have HQ7 := Aside0.mk ((below_alloc HQ.out _).grown hg (by have := HQ.out.size; simp; omega) (fun q e => by cases e; exact GE.out)); have B67 := Aside0.mk (blk_grown (blk_alloc B6.out _) hg (fun e => N6.out (Option.some.inj e))); clear hbox hbx hg))
              go_roundw
              case rel => exact ⟨2 + 1, by omega, by go_num, rfl, BQ7, B67, HQ7⟩
              case measure => simp [intOf]
            · have ST := Aside0.mk (bufR_nums (pre := preN NS 10) (x := p) (z := 4) (r := 3) (by rw [PL.out]; decide) (by decide) (byte0 p) (by unfold byte0; simp))
              rw [PL.out] at ST
              go_wp2_with (first | (at_builtin; (with_reducible refine gate_dst (N := 32) rfl ?_); refine ev_append_room rfl (.tmp 24) (.tmp 31) 58 5 rfl Try.underlying58 sizeU8 gB (30 + 3) 112 (nums .u8 (bufR (preN NS 10) p 4 3)) (blk_alloc BQ.out _) (by kernel_rfl) ⟨wr.heap.size, 0, none⟩ 1 1 (nums .u8 [(byte0 p)]) rfl rfl (World.news_of_block (cs := (nums .u8 [(byte0 p)]).toArray) (t := 5) (fr := (0, 0)) (heap_alloc_new wr _)) (one_nums _ _) (by omega) (by rw [nums_length, bufR_length (by rw [PL.out]; decide) (by decide)]; omega) ?_; intro w7 hbox hg; have hbx := hbox; rw [ST.out] at hbx; have BQ7 := Aside0.mk hbx; have HQ7 := Aside0.mk ((below_alloc HQ.out _).grown hg (by have := HQ.out.size; simp; omega) (fun q e => by cases e; exact GE.out)); have B67 := Aside0.mk (blk_grown (blk_alloc B6.out _) hg (fun e => N6.out (Option.some.inj e))); clear hbox hbx hg))
              go_roundw
              case rel => exact ⟨3 + 1, by omega, by go_num, rfl, BQ7, B67, HQ7⟩
              case measure => simp [intOf]
          · obtain rfl : r = 4 := by omega
            have BE : Aside0 (wr.heap[gB]? = some (.cells (nums .u8 (bufN NS (10 + 1))).toArray 5 (0, 0))) := ⟨by rw [← bufR_full NS 10 _ _ TK.out]; exact BQ.out⟩
            clear hr hrz BQ
            go_wp2
            go_roundw
            case rel => exact ⟨10 + 1, by omega, by go_num, rfl, BE, HQ⟩
            case measure => simp [intOf]
    · obtain rfl : t = 11 := by omega
      clear hlt ht
      go_wp2
      go_ret2
      refine ⟨_, rfl, ?_, HB.out⟩
      have hlen : (nums .u8 (bufN NS 11)).length = 112 := by rw [nums_length, ← HNS.out]; exact encI_length _ _ _ _ _ _ _ _ _ _ _
      rw [show encI a k s l d0 d1 d2 d3 d4 d5 p = bufN NS 11 from by unfold encI; rw [HNS.out]]
      refine ⟨by simpa using hlen, .inr ⟨gB, 112, (nums .u8 (bufN NS 11)).toArray, rfl, GE.out, BB.out, by omega, by simp [maxLen], by simpa using hlen, ?_⟩⟩
      rw [show 112 * 1 = (nums .u8 (bufN NS 11)).length from hlen.symm]; simp
end Go.Proofs.YtgiapegacbibeaaX
