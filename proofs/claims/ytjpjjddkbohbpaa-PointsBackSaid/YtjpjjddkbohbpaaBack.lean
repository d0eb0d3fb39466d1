/- PointsBack: the walk. -/
import Derived.Test.YtjpjjddkbohbpaaFormsLaw
import Derived.Test.YtjpjjddkbohbpaaUni
import Derived.Test.YtjpjjddkbohbpaaForms
import Derived.Test.YtjpjjddkbohbpaaFilesWalk
import Derived.Test.YtjpjjddkbohbpaaWakes
namespace Go.Proofs.YtjpjjddkbohbpaaX
open Go.RowKit Go.Proofs.YtjpjjddkbohbpaaW.PrintWords
set_option linter.unusedVariables false
def wordsL : List Int → List Int
  | a :: b :: c :: d :: r => be4 a b c d :: wordsL r
  | _ => []
theorem wordAt_step (a b c d : Int) (r : List Int) (m : Nat) : wordAt (a :: b :: c :: d :: r) (m + 4) = wordAt r m := by
  unfold wordAt
  rfl
theorem words_range : ∀ (k : Nat) (L : List Int), L.length = 4 * k → (List.range k).map (fun j => wordAt L (4 * j)) = wordsL L
  | 0, L, h => by
    have : L = [] := List.eq_nil_of_length_eq_zero (by omega)
    subst this
    rfl
  | k + 1, L, h => by
    match L, h with
    | a :: b :: c :: d :: r, h =>
      rw [List.range_succ_eq_map, List.map_cons, List.map_map, wordsL]
      have ih := words_range k r (by simp at h; omega)
      rw [← ih]
      congr 1
    | [], h => simp at h
    | [_], h => simp at h; omega
    | [_, _], h => simp at h; omega
    | [_, _, _], h => simp at h; omega
theorem words_ch (L : List Int) (h : L.length = 112) : ((chTo 28).map fun x => wordAt L x.1) = wordsL L := by
  rw [← words_range 28 L h]
  unfold chTo
  rw [List.map_map]
  apply List.map_congr_left
  intro k hk
  have := List.mem_range.1 hk
  show wordAt L (chAt k).1 = _
  rw [chAt_val k this]
theorem be4_bytes {x : Int} (h0 : 0 ≤ x) (h1 : x < 4294967296) : be4 (x / 16777216 % 256) (x / 65536 % 256) (x / 256 % 256) (x % 256) = x := by
  unfold be4; omega
theorem bytes_be4 {a b c d : Int} (ha : 0 ≤ a ∧ a < 256) (hb : 0 ≤ b ∧ b < 256) (hc : 0 ≤ c ∧ c < 256) (hd : 0 ≤ d ∧ d < 256) : bytes4 (be4 a b c d) = [a, b, c, d] := by
  unfold bytes4 be4
  simp only [List.cons.injEq, and_true]
  refine ⟨?_, ?_, ?_, ?_⟩ <;> omega
theorem words_flat : ∀ (l R : List Int), (∀ x ∈ l, 0 ≤ x ∧ x < 4294967296) → wordsL (l.flatMap bytes4 ++ R) = l ++ wordsL R
  | [], R, _ => rfl
  | x :: l, R, h => by
    have hx := h x (by simp)
    have ih := words_flat l R (fun y hy => h y (by simp [hy]))
    show be4 _ _ _ _ :: wordsL (l.flatMap bytes4 ++ R) = _
    rw [be4_bytes hx.1 hx.2, ih]
    rfl
theorem words_zero : ∀ m : Nat, wordsL (List.replicate (4 * m) 0) = List.replicate m 0
  | 0 => rfl
  | m + 1 => by
    rw [show 4 * (m + 1) = 4 * m + 1 + 1 + 1 + 1 from by omega]
    simp only [List.replicate_succ]
    rw [wordsL, words_zero m]
    rfl
/-- The numbers that a block of these numbers has. -/
def backN (l : List Int) : List Int := l ++ List.replicate (28 - l.length) 0
theorem words_put (l : List Int) (h : l.length ≤ 28) (hx : ∀ x ∈ l, 0 ≤ x ∧ x < 4294967296) : ((chTo 28).map fun x => wordAt (putN l l.length) x.1) = backN l := by
  rw [words_ch _ (putN_length (Nat.le_refl _) h)]
  unfold putN
  rw [List.take_length, words_flat l _ hx, show 112 - 4 * l.length = 4 * (28 - l.length) from by omega, words_zero]
  rfl
theorem flat_words : ∀ (k : Nat) (L : List Int), L.length = 4 * k → (∀ x ∈ L, 0 ≤ x ∧ x < 256) → (wordsL L).flatMap bytes4 = L ∧ (wordsL L).length = k
  | 0, L, h, _ => by
    have : L = [] := List.eq_nil_of_length_eq_zero (by omega)
    subst this
    exact ⟨rfl, rfl⟩
  | k + 1, L, h, hx => by
    match L, h with
    | a :: b :: c :: d :: r, h =>
      obtain ⟨e1, e2⟩ := flat_words k r (by simp at h; omega) (fun y hy => hx y (by simp [hy]))
      rw [wordsL, List.flatMap_cons, bytes_be4 (hx a (by simp)) (hx b (by simp)) (hx c (by simp)) (hx d (by simp)), e1]
      exact ⟨rfl, by simp [e2]⟩
    | [], h => simp at h
    | [_], h => simp at h; omega
    | [_, _], h => simp at h; omega
    | [_, _, _], h => simp at h; omega
theorem put_words (L : List Int) (h : L.length = 112) (hx : ∀ x ∈ L, 0 ≤ x ∧ x < 256) : putN ((chTo 28).map fun x => wordAt L x.1) 28 = L := by
  rw [words_ch L h]
  obtain ⟨e1, e2⟩ := flat_words 28 L (by omega) hx
  unfold putN
  rw [List.take_of_length_le (by omega), e1]
  simp
theorem words_len (L : List Int) : ((chTo 28).map fun x => wordAt L x.1).length = 28 := by rw [List.length_map, chTo_length]
theorem all_back (xs : List Int) (h : xs.length ≤ 34) : allN [xs.getD 0 0, xs.getD 1 0, xs.getD 2 0, xs.getD 3 0, xs.getD 4 0, xs.getD 5 0] (backN (xs.drop 6)) xs.length = xs := by
  unfold allN
  apply List.ext_getElem
  · simp
  · intro i h1 h2
    rw [List.getElem_map, List.getElem_range]
    by_cases h6 : i < 6
    · rw [if_pos h6]
      match i, h6 with
      | 0, _ => simp [List.getD_eq_getElem?_getD, List.getElem?_eq_getElem h2]
      | 1, _ => simp [List.getD_eq_getElem?_getD, List.getElem?_eq_getElem h2]
      | 2, _ => simp [List.getD_eq_getElem?_getD, List.getElem?_eq_getElem h2]
      | 3, _ => simp [List.getD_eq_getElem?_getD, List.getElem?_eq_getElem h2]
      | 4, _ => simp [List.getD_eq_getElem?_getD, List.getElem?_eq_getElem h2]
      | 5, _ => simp [List.getD_eq_getElem?_getD, List.getElem?_eq_getElem h2]
    · rw [if_neg h6]
      unfold backN
      rw [List.getD_eq_getElem?_getD, List.getElem?_append_left (by rw [List.length_drop]; omega), List.getElem?_drop, show 6 + (i - 6) = i from by omega, List.getElem?_eq_getElem h2]
      rfl
theorem getD_past (xs : List Int) (i : Nat) (h : xs.length ≤ i) : xs.getD i 0 = 0 := by
  rw [List.getD_eq_getElem?_getD, List.getElem?_eq_none h]; rfl
theorem may_back {a k s l : Int} {xs : List Int} (h : mayB a k s l [0, 0, 0, 0, 0, 0] 0 = true) (hn : blk s = (xs.length : Int)) : mayB a k s l [xs.getD 0 0, xs.getD 1 0, xs.getD 2 0, xs.getD 3 0, xs.getD 4 0, xs.getD 5 0] 0 = true := by
  have hr : RangeOk a k s l := by
    by_cases hr : RangeOk a k s l
    · exact hr
    · rw [may_no hr] at h; cases h
  rw [may_yes hr hn]
  · simp
  · have hp := fun i (hi : xs.length ≤ i) => getD_past xs i hi
    rw [Int.toNat_natCast]
    by_cases h6 : 6 ≤ xs.length
    · rw [Nat.min_eq_right h6]; rfl
    · match hlen : xs.length, h6 with
      | 0, _ => rw [hp 0 (by omega), hp 1 (by omega), hp 2 (by omega), hp 3 (by omega), hp 4 (by omega), hp 5 (by omega)]; rfl
      | 1, _ => rw [hp 1 (by omega), hp 2 (by omega), hp 3 (by omega), hp 4 (by omega), hp 5 (by omega)]; rfl
      | 2, _ => rw [hp 2 (by omega), hp 3 (by omega), hp 4 (by omega), hp 5 (by omega)]; rfl
      | 3, _ => rw [hp 3 (by omega), hp 4 (by omega), hp 5 (by omega)]; rfl
      | 4, _ => rw [hp 4 (by omega), hp 5 (by omega)]; rfl
      | 5, _ => rw [hp 5 (by omega)]; rfl
      | n + 6, h => omega
theorem backN_take (l : List Int) : (backN l).take l.length = l := by simp [backN]
theorem backN_len (l : List Int) (h : l.length ≤ 28) : (backN l).length = 28 := by simp [backN]; omega
theorem backN_past (l : List Int) (k : Nat) (h : l.length ≤ k) : (backN l).getD k 0 = 0 := by
  unfold backN
  rw [List.getD_eq_getElem?_getD, List.getElem?_append_right h, List.getElem?_replicate]
  split <;> rfl
theorem own_some {W : World} {base n : Nat} {e : TypeId} {k : IntKind} {v : Value} {xs : List Int} (h : W.ownsRow base e 1 v n (nums k xs)) (hn : 0 < n) :
    ∃ ad c, v = .slice (some ad) n c ∧ ReadsInt W k (some ad) n xs ∧ n ≤ c ∧ c ≤ 9223372036854775807 := by
  obtain ⟨A, c, rfl, hr, hc, h63, hnil⟩ := own_form h
  cases A with
  | none => have := (hnil rfl).1; omega
  | some ad => exact ⟨ad, c, rfl, hr, hc, h63⟩
theorem reads_prefix {W : World} {k : IntKind} {A : Option Addr} {n m : Nat} {xs : List Int} (h : ReadsInt W k A n xs) (hm : m ≤ n) : ReadsInt W k A m (xs.take m) := by
  refine ⟨by rw [List.length_take, h.1]; omega, by have := h.2.1; omega, fun hp => ?_⟩
  obtain ⟨ad, rfl, hc⟩ := h.2.2 (by omega)
  refine ⟨ad, rfl, fun j hj => ?_⟩
  rw [hc j (by omega)]
  simp [List.getD_eq_getElem?_getD, hj]
theorem put_rd (A : Option Addr) (c : Nat) (l : List Int) (W : World) (hr : ReadsInt W .u32 A l.length l) (h28 : l.length ≤ 28) :
    Calls Try.prog 19 #[.slice A l.length c] W fun e w' => ∃ ad c', e = .returned (.tuple #[.slice (some ad) 112 c', .int .i64 0]) ∧ ReadsInt w' .u8 (some ad) 112 (putN l l.length) ∧ 112 ≤ c' ∧ c' ≤ 9223372036854775807 ∧ Below W.heap.size W w' := by
  refine (put_any A _ c l W hr h28).mono ?_
  rintro e w' ⟨v, rfl, ho, hb⟩
  obtain ⟨ad, c', rfl, h1, h2, h3⟩ := own_some ho (by decide)
  exact ⟨ad, c', rfl, h1, h2, h3, hb⟩
theorem take_rd (ad : Addr) (c : Nat) (L : List Int) (W : World) (hc : 112 ≤ c) (hc63 : c ≤ 9223372036854775807) (hr : ReadsInt W .u8 (some ad) 112 L) (hx : ∀ x ∈ L, 0 ≤ x ∧ x < 256) (T : List Int) (hT : ((chTo 28).map fun x => wordAt L x.1) = T) :
    Calls Try.prog 21 #[.slice (some ad) 112 c] W fun e w' => ∃ ad' c', e = .returned (.tuple #[.slice (some ad') 28 c', .int .i64 0]) ∧ ReadsInt w' .u32 (some ad') 28 T ∧ 28 ≤ c' ∧ c' ≤ 9223372036854775807 ∧ Below W.heap.size W w' := by
  subst hT
  refine (take_yes ad c L W hc hc63 hr hx).mono ?_
  rintro e w' ⟨v, rfl, ho, hb⟩
  obtain ⟨ad', c', rfl, h1, h2, h3⟩ := own_some ho (by decide)
  exact ⟨ad', c', rfl, h1, h2, h3, hb⟩
theorem putN_bytes (l : List Int) (k : Nat) : ∀ x ∈ putN l k, 0 ≤ x ∧ x < 256 := by
  intro x hx
  unfold putN at hx
  rcases List.mem_append.1 hx with h | h
  · obtain ⟨y, _, hy⟩ := List.mem_flatMap.1 h
    simp only [bytes4, List.mem_cons, List.not_mem_nil, or_false] at hy
    rcases hy with rfl | rfl | rfl | rfl <;> omega
  · rw [(List.mem_replicate.1 h).2]; decide
set_option maxHeartbeats 1000000 in
set_option maxRecDepth 100000 in
theorem back_no (a k s l d0 d1 d2 d3 d4 d5 p : Int) (A1 A2 : Option Addr) (c1 m c2 : Nat) (xs ys : List Int) (w : World) (hs : s ≤ 9223372036854775807)
    (hr1 : ReadsInt w .u32 A1 xs.length xs) (hr2 : ReadsInt w .u8 A2 m ys) (h1 : xs.length * 4 ≤ 140737488355328) (hc1 : xs.length ≤ c1) (hc63 : c1 ≤ 9223372036854775807) (hnil : A1 = none → xs.length = 0 ∧ c1 = 0) (hc2 : m ≤ c2) (hc263 : c2 ≤ 9223372036854775807) (hy : ∀ x ∈ ys, 0 ≤ x ∧ x < 256) (mb : Bool) (hm : mayB a k s l [0, 0, 0, 0, 0, 0] 0 = mb) (hne : mb = true → ¬ (xs.length : Int) = blk s) :
    Calls Try.prog 9 #[.agg (inoCells a k s l d0 d1 d2 d3 d4 d5 p), .slice A1 xs.length c1, .slice A2 m c2] w fun e w' => e = .returned (.bool true) ∧ Below w.heap.size w w' := by
  have hu41 := Aside0.mk Try.underlying41
  have HS := Aside0.mk hs
  have R1 := Aside0.mk hr1
  have R2 := Aside0.mk hr2
  have H1 := Aside0.mk h1
  have HC1 := Aside0.mk hc1
  have HC63 := Aside0.mk hc63
  have HNIL := Aside0.mk hnil
  have HC2 := Aside0.mk hc2
  have HC263 := Aside0.mk hc263
  have HY := Aside0.mk hy
  have HM := Aside0.mk hm
  clear hs hr1 hr2 h1 hc1 hc63 hnil hc2 hc263 hy hm
  have HNO := Aside0.mk (show (mayB a k s l [0, 0, 0, 0, 0, 0] 0 && decide ((xs.length : Int) = blk s)) = false from by rw [HM.out]; cases mb; rfl; rw [decide_eq_false (hne rfl)]; rfl)
  cases mb
  all_goals
    have hne' := hne
    clear hne
    simp only [forall_const, Bool.false_eq_true, false_implies] at hne'
    go_enter Try.func9, Try.ntmps9
    go_wp2_with (first | ((with_reducible refine gate_dst (N := 3) rfl ?_); refine box_event ?hg (N := 3) ?hd (cs := inoCells a k s l d0 d1 d2 d3 d4 d5 p) (t := 41) ?hr ?_; (case hd => rfl); (case hg => rfl); (case hr => first | (go_simp; done) | (go_simp; rfl)); intro gb hg w1 hbox hb; have HB1 := Aside0.mk (hb); have BK1 := Aside0.mk (hbox); clear hb hbox hg) | ((with_reducible refine gate_dst (N := 23) rfl ?_); refine wpList_load_row rfl 41 (.tmp 3) (by kernel_rfl) gb (by kernel_rfl) _ _ _ _ BK1.out hu41.out rfl sizeInode ?_) | (go_at_call 17; refine ((spread_no a k s l d0 d1 d2 d3 d4 d5 p A1 _ c1 _ HS.out (by have := H1.out; omega) HNO.out).mono (R' := fun e w' => ∃ v, e = .returned (.tuple #[.agg (inoCells 0 0 0 0 0 0 0 0 0 0 0), v, .int .i64 1]) ∧ w'.ownsRow w1.heap.size 38 1 v ([] : List Int).length (nums .u32 []) ∧ Below w1.heap.size w1 w') (fun e w' ⟨h1, h2⟩ => ⟨_, h1, own_nil _ _ _ _, h2⟩)).mono ?_; rintro e w2 ⟨v2, rfl, ho, hb⟩; have HB2 := Aside0.mk (below_step HB1.out hb); have BK2 := Aside0.mk (blk_below BK1.out hb); have P2 := Aside0.mk (ho); obtain ⟨A5, c5, rfl, _, hc5, _, _⟩ := own_form ho; have C5 := Aside0.mk (hc5); clear ho hb hc5) | ((with_reducible refine gate_dst (N := 7) rfl ?_); refine box_event ?hg (N := 7) ?hd (cs := inoCells 0 0 0 0 0 0 0 0 0 0 0) (t := 41) ?hr ?_; (case hd => rfl); (case hg => rfl); (case hr => first | (go_simp; done) | (go_simp; rfl)); intro ga hg w3 hbox hb; have NE := Aside0.mk (show ga ≠ gb from fun e => by have h1 := blk_lt BK2.out; omega); have GA := Aside0.mk (show w.heap.size ≤ ga from by have := HB2.out.size; omega); have HB3 := Aside0.mk (below_step HB2.out hb); have BK3 := Aside0.mk (blk_below BK2.out hb); have P3 := Aside0.mk (pw_own_below P2.out hb); have BA3 := Aside0.mk (hbox); clear hb hbox hg HB2 BK2 P2) | ((with_reducible refine gate_store (t := 41) (p := 7) (v := .tmp 26) rfl ?_); refine ev_store_row (by rfl) 41 (.tmp 7) (.tmp 26) (by rfl) ga (inoCells 0 0 0 0 0 0 0 0 0 0 0) (by kernel_rfl) (by kernel_rfl) 41 _ BA3.out sizeInode (by rfl) (ino_all _ _ _ _ _ _ _ _ _ _ _) ?_; intro w4 hbox hg; have HB4 := Aside0.mk (pw_below_grown HB3.out _ HB3.out.size hg (fun q e => by cases e; exact GA.out)); have BK4 := Aside0.mk (blk_grown BK3.out hg (fun e => NE.out (Option.some.inj e).symm)); have P4 := Aside0.mk (box_own P3.out BA3.out hg); have BX4 := Aside0.mk (hbox); clear hbox hg HB3 BK3 P3 BA3) | ((with_reducible refine gate_dst (N := 29) rfl ?_); refine wpList_load_row rfl 41 (.tmp 3) (by kernel_rfl) gb (by kernel_rfl) _ _ _ _ BK4.out hu41.out rfl sizeInode ?_) | ((with_reducible refine gate_dst (N := 10) rfl ?_); refine box_event ?hg (N := 10) ?hd (cs := inoCells 0 0 0 0 0 0 0 0 0 0 0) (t := 41) ?hr ?_; (case hd => rfl); (case hg => rfl); (case hr => first | (go_simp; done) | (go_simp; rfl)); intro gc hg w5 hbox hb; have NC := Aside0.mk (show gc ≠ gb from fun e => by have h1 := blk_lt BK4.out; omega); have ND := Aside0.mk (show gc ≠ ga from fun e => by have h1 := blk_lt BX4.out; omega); have GC := Aside0.mk (show w.heap.size ≤ gc from by have := HB4.out.size; omega); have HB5 := Aside0.mk (below_step HB4.out hb); have BK5 := Aside0.mk (blk_below BK4.out hb); have BX5 := Aside0.mk (blk_below BX4.out hb); have P5 := Aside0.mk (pw_own_below P4.out hb); have BC5 := Aside0.mk (hbox); clear hb hbox hg HB4 BK4 BX4 P4) | ((with_reducible refine gate_store (t := 41) (p := 10) (v := .tmp 29) rfl ?_); refine ev_store_row (by rfl) 41 (.tmp 10) (.tmp 29) (by rfl) gc (inoCells a k s l d0 d1 d2 d3 d4 d5 p) (by kernel_rfl) (by kernel_rfl) 41 _ BC5.out sizeInode (by rfl) (ino_all _ _ _ _ _ _ _ _ _ _ _) ?_; intro w6 hbox hg; have BC6 := Aside0.mk (hbox); have HB6 := Aside0.mk (pw_below_grown HB5.out _ HB5.out.size hg (fun q e => by cases e; exact GC.out)); have BK6 := Aside0.mk (blk_grown BK5.out hg (fun e => NC.out (Option.some.inj e).symm)); have BX6 := Aside0.mk (blk_grown BX5.out hg (fun e => ND.out (Option.some.inj e).symm)); have P6 := Aside0.mk (box_own P5.out BC5.out hg); clear hbox hg HB5 BK5 BX5 P5 BC5) | ((with_reducible refine gate_store (t := 39) (p := 31) (v := .tmp 30) rfl ?_); refine ev_store (by rfl) 39 (.tmp 31) (.tmp 30) (by rfl) gc 4 (inoCells a k s l d0 d1 d2 d3 d4 d5 p).toList (nums .u32 [0, 0, 0, 0, 0, 0]) (.agg (nums .u32 [0, 0, 0, 0, 0, 0]).toArray) (by kernel_rfl) (by kernel_rfl) (by rfl) 41 BC6.out sizeDirect (show 4 + 6 ≤ 11 from by decide) (one_nums _ _) ?_; intro w7 hbox hg; have BC7 := Aside0.mk (show w7.heap[gc]? = some (.cells (inoCells a k s l 0 0 0 0 0 0 p) 41 (0, 0)) from hbox); have HB7 := Aside0.mk (pw_below_grown HB6.out _ HB6.out.size hg (fun q e => by cases e; exact GC.out)); have BK7 := Aside0.mk (blk_grown BK6.out hg (fun e => NC.out (Option.some.inj e).symm)); have BX7 := Aside0.mk (blk_grown BX6.out hg (fun e => ND.out (Option.some.inj e).symm)); have P7 := Aside0.mk (box_own P6.out BC6.out hg); clear hbox hg HB6 BK6 BX6 P6 BC6) | ((with_reducible refine gate_store (t := 38) (p := 32) (v := .const (.int .u32 0)) rfl ?_); refine ev_store (by rfl) 38 (.tmp 32) (.const (.int .u32 0)) (by rfl) gc 10 (inoCells a k s l 0 0 0 0 0 0 p).toList (nums .u32 [0]) (.int .u32 0) (by kernel_rfl) (by rfl) (by rfl) 41 BC7.out sizeU32 (show 10 + 1 ≤ 11 from by decide) (one_nums _ _) ?_; intro w8 hbox hg; have BC8 := Aside0.mk (show w8.heap[gc]? = some (.cells (inoCells a k s l 0 0 0 0 0 0 0) 41 (0, 0)) from hbox); have HB8 := Aside0.mk (pw_below_grown HB7.out _ HB7.out.size hg (fun q e => by cases e; exact GC.out)); have BK8 := Aside0.mk (blk_grown BK7.out hg (fun e => NC.out (Option.some.inj e).symm)); have BX8 := Aside0.mk (blk_grown BX7.out hg (fun e => ND.out (Option.some.inj e).symm)); have P8 := Aside0.mk (box_own P7.out BC7.out hg); clear hbox hg HB7 BK7 BX7 P7 BC7) | ((with_reducible refine gate_dst (N := 35) rfl ?_); refine wpList_load_row rfl 41 (.tmp 10) (by kernel_rfl) gc (by kernel_rfl) _ _ _ _ BC8.out hu41.out rfl sizeInode ?_) | (go_at_call 24; refine (may_any a k s l 0 0 0 0 0 0 0 _ HS.out).mono ?_; rw [HM.out]; rintro e w9 ⟨rfl, hb⟩; have HB9 := Aside0.mk (below_step HB8.out hb); have BK9 := Aside0.mk (blk_below BK8.out hb); have BX9 := Aside0.mk (blk_below BX8.out hb); have P9 := Aside0.mk (pw_own_below P8.out hb); have RM9 := Aside0.mk (own_reads' P9.out); have cs2 := (blk_cell (blk_below BK8.out hb) 2).trans (show (inoCells a k s l d0 d1 d2 d3 d4 d5 p)[2]? = some (.int .i64 s) from rfl); clear hb) | (go_at_call 25; refine (blocks_any s _ HS.out).mono ?_; rintro e w' ⟨rfl, rfl⟩))
    by_cases hm1 : m < 112
    · refine (take_short A2 m c2 _ hm1).mono ?_
      rintro e wt ⟨rfl, hb⟩
      have HBt := Aside0.mk (below_step HB9.out hb)
      have f1 : (m : Int) < 112 := by omega
      have f2 : decide ((m : Int) < 112) = true := decide_eq_true f1
      have f3 : decide ((112 : Int) < (m : Int)) = false := decide_eq_false (by omega)
      have f4 : ¬ (m : Int) = 112 := by omega
      clear hb hm1
      go_wp2_with (first | (go_at_call 12; refine (wakes_true _).mono ?_; rintro e wz ⟨rfl, hb⟩; have HBz := Aside0.mk (below_step HBt.out hb); clear hb))
      go_ret
      exact ⟨rfl, HBz.out⟩
    · by_cases hm2 : 112 < m
      · refine (take_long A2 m c2 _ hm2 R2.out.2.1).mono ?_
        rintro e wt ⟨rfl, hb⟩
        have HBt := Aside0.mk (below_step HB9.out hb)
        have f1 : (112 : Int) < (m : Int) := by omega
        have f2 : decide ((112 : Int) < (m : Int)) = true := decide_eq_true f1
        have f3 : decide ((m : Int) < 112) = false := decide_eq_false (by omega)
        have f4 : ¬ (m : Int) = 112 := by omega
        have f5 : ¬ (m : Int) < 112 := by omega
        clear hb hm1 hm2
        go_wp2_with (first | (go_at_call 12; refine (wakes_true _).mono ?_; rintro e wz ⟨rfl, hb⟩; have HBz := Aside0.mk (below_step HBt.out hb); clear hb))
        go_ret
        exact ⟨rfl, HBz.out⟩
      · obtain rfl : m = 112 := by omega
        obtain ⟨ad2, rfl, _⟩ := R2.out.2.2 (by decide)
        refine (take_rd ad2 c2 ys _ HC2.out HC263.out (R2.out.below HB9.out) HY.out _ rfl).mono ?_
        rintro e wt ⟨adt, ct, rfl, hrt, hct, _, hb⟩
        have HBt0 := Aside0.mk (below_step HB9.out hb)
        have RT := Aside0.mk hrt
        have CT := Aside0.mk hct
        clear hb hrt hct hm1 hm2
        go_wp2_with (first | (go_at_call 19; refine (put_any (some adt) 28 ct _ _ RT.out (by decide)).mono ?_; rintro e wp ⟨vp, rfl, ho, hb⟩; rw [put_words ys R2.out.1 HY.out] at ho; obtain ⟨adp, cp, rfl, hrp, _, _⟩ := own_some ho (by decide); have HBt := Aside0.mk (below_step HBt0.out hb); have s1 := string_of_reads (P := Try.prog) (src := 53) (dst := 9) Try.underlying53 Try.underlying5 Try.underlying9 (c := cp) hrp; have s2 := string_of_reads (P := Try.prog) (src := 53) (dst := 9) Try.underlying53 Try.underlying5 Try.underlying9 (c := c2) (R2.out.below HBt.out); clear hb hrp ho) | (go_at_call 12; refine (wakes_true _).mono ?_; rintro e wz ⟨rfl, hb⟩; have HBz := Aside0.mk (below_step HBt.out hb); clear hb))
        go_ret
        exact ⟨rfl, HBz.out⟩
set_option maxHeartbeats 1000000 in
set_option maxRecDepth 100000 in
theorem back_yes (a k s l d0 d1 d2 d3 d4 d5 p : Int) (A1 A2 : Option Addr) (c1 m c2 : Nat) (xs ys : List Int) (w : World) (hs : s ≤ 9223372036854775807)
    (hr1 : ReadsInt w .u32 A1 xs.length xs) (hr2 : ReadsInt w .u8 A2 m ys) (h1 : xs.length * 4 ≤ 140737488355328) (hc1 : xs.length ≤ c1) (hc63 : c1 ≤ 9223372036854775807) (hnil : A1 = none → xs.length = 0 ∧ c1 = 0) (hc2 : m ≤ c2) (hc263 : c2 ≤ 9223372036854775807) (hy : ∀ x ∈ ys, 0 ≤ x ∧ x < 256) (M : List Int) (x0 x1 x2 x3 x4 x5 : Int) (hm : mayB a k s l [0, 0, 0, 0, 0, 0] 0 = true) (hb : blk s = (xs.length : Int)) (hmx : mayB a k s l [x0, x1, x2, x3, x4, x5] 0 = true) (h34 : xs.length ≤ 34) (hM : M.length = xs.length - 6)
    (hal : allN [x0, x1, x2, x3, x4, x5] (backN M) xs.length = xs) (htb : ((chTo 28).map fun x => wordAt (putN M M.length) x.1) = backN M)
    (hsp : ∀ W : World, ReadsInt W .u32 A1 xs.length xs → Calls Try.prog 17 #[.agg (inoCells a k s l d0 d1 d2 d3 d4 d5 p), .slice A1 xs.length c1] W fun e w' => ∃ v, e = .returned (.tuple #[.agg (inoCells a k s l x0 x1 x2 x3 x4 x5 0), v, .int .i64 0]) ∧ w'.ownsRow W.heap.size 38 1 v M.length (nums .u32 M) ∧ Below W.heap.size W w') :
    Calls Try.prog 9 #[.agg (inoCells a k s l d0 d1 d2 d3 d4 d5 p), .slice A1 xs.length c1, .slice A2 m c2] w fun e w' => e = .returned (.bool true) ∧ Below w.heap.size w w' := by
  have hu41 := Aside0.mk Try.underlying41
  have HS := Aside0.mk hs
  have R1 := Aside0.mk hr1
  have R2 := Aside0.mk hr2
  have H1 := Aside0.mk h1
  have HC1 := Aside0.mk hc1
  have HC63 := Aside0.mk hc63
  have HNIL := Aside0.mk hnil
  have HC2 := Aside0.mk hc2
  have HC263 := Aside0.mk hc263
  have HY := Aside0.mk hy
  have HM := Aside0.mk hm
  have HBK := Aside0.mk hb
  have HMX := Aside0.mk hmx
  have H34 := Aside0.mk h34
  have HML := Aside0.mk hM
  have HAL := Aside0.mk hal
  have HTB := Aside0.mk htb
  have SP := Aside0.mk hsp
  clear hs hr1 hr2 h1 hc1 hc63 hnil hc2 hc263 hy hm hb hmx h34 hM hal htb hsp
  have HM28 : Aside0 (M.length ≤ 28) := ⟨by have h1 := HML.out; have h2 := H34.out; omega⟩
  have hlm : M.length ≤ 28 := HM28.out
  go_enter Try.func9, Try.ntmps9
  go_wp2_with (first | ((with_reducible refine gate_dst (N := 3) rfl ?_); refine box_event ?hg (N := 3) ?hd (cs := inoCells a k s l d0 d1 d2 d3 d4 d5 p) (t := 41) ?hr ?_; (case hd => rfl); (case hg => rfl); (case hr => first | (go_simp; done) | (go_simp; rfl)); intro gb hg w1 hbox hb; have HB1 := Aside0.mk (hb); have BK1 := Aside0.mk (hbox); clear hb hbox hg) | ((with_reducible refine gate_dst (N := 23) rfl ?_); refine wpList_load_row rfl 41 (.tmp 3) (by kernel_rfl) gb (by kernel_rfl) _ _ _ _ BK1.out hu41.out rfl sizeInode ?_) | (go_at_call 17; refine ((SP.out _ (R1.out.below HB1.out))).mono ?_; rintro e w2 ⟨v2, rfl, ho, hb⟩; have HB2 := Aside0.mk (below_step HB1.out hb); have BK2 := Aside0.mk (blk_below BK1.out hb); have P2 := Aside0.mk (ho); obtain ⟨A5, c5, rfl, _, hc5, _, _⟩ := own_form ho; have C5 := Aside0.mk (hc5); clear ho hb hc5) | ((with_reducible refine gate_dst (N := 7) rfl ?_); refine box_event ?hg (N := 7) ?hd (cs := inoCells 0 0 0 0 0 0 0 0 0 0 0) (t := 41) ?hr ?_; (case hd => rfl); (case hg => rfl); (case hr => first | (go_simp; done) | (go_simp; rfl)); intro ga hg w3 hbox hb; have NE := Aside0.mk (show ga ≠ gb from fun e => by have h1 := blk_lt BK2.out; omega); have GA := Aside0.mk (show w.heap.size ≤ ga from by have := HB2.out.size; omega); have HB3 := Aside0.mk (below_step HB2.out hb); have BK3 := Aside0.mk (blk_below BK2.out hb); have P3 := Aside0.mk (pw_own_below P2.out hb); have BA3 := Aside0.mk (hbox); clear hb hbox hg HB2 BK2 P2) | ((with_reducible refine gate_store (t := 41) (p := 7) (v := .tmp 26) rfl ?_); refine ev_store_row (by rfl) 41 (.tmp 7) (.tmp 26) (by rfl) ga (inoCells a k s l x0 x1 x2 x3 x4 x5 0) (by kernel_rfl) (by kernel_rfl) 41 _ BA3.out sizeInode (by rfl) (ino_all _ _ _ _ _ _ _ _ _ _ _) ?_; intro w4 hbox hg; have HB4 := Aside0.mk (pw_below_grown HB3.out _ HB3.out.size hg (fun q e => by cases e; exact GA.out)); have BK4 := Aside0.mk (blk_grown BK3.out hg (fun e => NE.out (Option.some.inj e).symm)); have P4 := Aside0.mk (box_own P3.out BA3.out hg); have BX4 := Aside0.mk (hbox); clear hbox hg HB3 BK3 P3 BA3) | ((with_reducible refine gate_dst (N := 29) rfl ?_); refine wpList_load_row rfl 41 (.tmp 3) (by kernel_rfl) gb (by kernel_rfl) _ _ _ _ BK4.out hu41.out rfl sizeInode ?_) | ((with_reducible refine gate_dst (N := 10) rfl ?_); refine box_event ?hg (N := 10) ?hd (cs := inoCells 0 0 0 0 0 0 0 0 0 0 0) (t := 41) ?hr ?_; (case hd => rfl); (case hg => rfl); (case hr => first | (go_simp; done) | (go_simp; rfl)); intro gc hg w5 hbox hb; have NC := Aside0.mk (show gc ≠ gb from fun e => by have h1 := blk_lt BK4.out; omega); have ND := Aside0.mk (show gc ≠ ga from fun e => by have h1 := blk_lt BX4.out; omega); have GC := Aside0.mk (show w.heap.size ≤ gc from by have := HB4.out.size; omega); have HB5 := Aside0.mk (below_step HB4.out hb); have BK5 := Aside0.mk (blk_below BK4.out hb); have BX5 := Aside0.mk (blk_below BX4.out hb); have P5 := Aside0.mk (pw_own_below P4.out hb); have BC5 := Aside0.mk (hbox); clear hb hbox hg HB4 BK4 BX4 P4) | ((with_reducible refine gate_store (t := 41) (p := 10) (v := .tmp 29) rfl ?_); refine ev_store_row (by rfl) 41 (.tmp 10) (.tmp 29) (by rfl) gc (inoCells a k s l d0 d1 d2 d3 d4 d5 p) (by kernel_rfl) (by kernel_rfl) 41 _ BC5.out sizeInode (by rfl) (ino_all _ _ _ _ _ _ _ _ _ _ _) ?_; intro w6 hbox hg; have BC6 := Aside0.mk (hbox); have HB6 := Aside0.mk (pw_below_grown HB5.out _ HB5.out.size hg (fun q e => by cases e; exact GC.out)); have BK6 := Aside0.mk (blk_grown BK5.out hg (fun e => NC.out (Option.some.inj e).symm)); have BX6 := Aside0.mk (blk_grown BX5.out hg (fun e => ND.out (Option.some.inj e).symm)); have P6 := Aside0.mk (box_own P5.out BC5.out hg); clear hbox hg HB5 BK5 BX5 P5 BC5) | ((with_reducible refine gate_store (t := 39) (p := 31) (v := .tmp 30) rfl ?_); refine ev_store (by rfl) 39 (.tmp 31) (.tmp 30) (by rfl) gc 4 (inoCells a k s l d0 d1 d2 d3 d4 d5 p).toList (nums .u32 [0, 0, 0, 0, 0, 0]) (.agg (nums .u32 [0, 0, 0, 0, 0, 0]).toArray) (by kernel_rfl) (by kernel_rfl) (by rfl) 41 BC6.out sizeDirect (show 4 + 6 ≤ 11 from by decide) (one_nums _ _) ?_; intro w7 hbox hg; have BC7 := Aside0.mk (show w7.heap[gc]? = some (.cells (inoCells a k s l 0 0 0 0 0 0 p) 41 (0, 0)) from hbox); have HB7 := Aside0.mk (pw_below_grown HB6.out _ HB6.out.size hg (fun q e => by cases e; exact GC.out)); have BK7 := Aside0.mk (blk_grown BK6.out hg (fun e => NC.out (Option.some.inj e).symm)); have BX7 := Aside0.mk (blk_grown BX6.out hg (fun e => ND.out (Option.some.inj e).symm)); have P7 := Aside0.mk (box_own P6.out BC6.out hg); clear hbox hg HB6 BK6 BX6 P6 BC6) | ((with_reducible refine gate_store (t := 38) (p := 32) (v := .const (.int .u32 0)) rfl ?_); refine ev_store (by rfl) 38 (.tmp 32) (.const (.int .u32 0)) (by rfl) gc 10 (inoCells a k s l 0 0 0 0 0 0 p).toList (nums .u32 [0]) (.int .u32 0) (by kernel_rfl) (by rfl) (by rfl) 41 BC7.out sizeU32 (show 10 + 1 ≤ 11 from by decide) (one_nums _ _) ?_; intro w8 hbox hg; have BC8 := Aside0.mk (show w8.heap[gc]? = some (.cells (inoCells a k s l 0 0 0 0 0 0 0) 41 (0, 0)) from hbox); have HB8 := Aside0.mk (pw_below_grown HB7.out _ HB7.out.size hg (fun q e => by cases e; exact GC.out)); have BK8 := Aside0.mk (blk_grown BK7.out hg (fun e => NC.out (Option.some.inj e).symm)); have BX8 := Aside0.mk (blk_grown BX7.out hg (fun e => ND.out (Option.some.inj e).symm)); have P8 := Aside0.mk (box_own P7.out BC7.out hg); clear hbox hg HB7 BK7 BX7 P7 BC7) | ((with_reducible refine gate_dst (N := 35) rfl ?_); refine wpList_load_row rfl 41 (.tmp 10) (by kernel_rfl) gc (by kernel_rfl) _ _ _ _ BC8.out hu41.out rfl sizeInode ?_) | (go_at_call 24; refine (may_any a k s l 0 0 0 0 0 0 0 _ HS.out).mono ?_; rw [HM.out]; rintro e w9 ⟨rfl, hb⟩; have HB9 := Aside0.mk (below_step HB8.out hb); have BK9 := Aside0.mk (blk_below BK8.out hb); have BX9 := Aside0.mk (blk_below BX8.out hb); have P9 := Aside0.mk (pw_own_below P8.out hb); have RM9 := Aside0.mk (own_reads' P9.out); have cs2 := (blk_cell (blk_below BK8.out hb) 2).trans (show (inoCells a k s l d0 d1 d2 d3 d4 d5 p)[2]? = some (.int .i64 s) from rfl); clear hb) | (go_at_call 25; refine (blocks_any s _ HS.out).mono ?_; rw [HBK.out]; rintro e w' ⟨rfl, rfl⟩) | (go_at_call 19; refine (put_rd A5 c5 M _ RM9.out HM28.out).mono ?_; rintro e w10 ⟨ad6, c6, rfl, hr, hc, h63, hb⟩; have HB10 := Aside0.mk (below_step HB9.out hb); have BK10 := Aside0.mk (blk_below BK9.out hb); have BX10 := Aside0.mk (blk_below BX9.out hb); have RM10 := Aside0.mk (RM9.out.below hb); have RP10 := Aside0.mk (hr); have C6 := Aside0.mk (hc); have C6b := Aside0.mk (h63); clear hb hr hc h63 cs2) | (go_at_call 21; refine (take_rd ad6 c6 _ _ C6.out C6b.out RP10.out (putN_bytes _ _) _ HTB.out).mono ?_; rintro e w11 ⟨ad7, c7, rfl, hr, hc, h63, hb⟩; have HB11 := Aside0.mk (below_step HB10.out hb); have BX11 := Aside0.mk (blk_below BX10.out hb); have RM11 := Aside0.mk (RM10.out.below hb); have RT11 := Aside0.mk (hr); have C7 := Aside0.mk (hc); have C7b := Aside0.mk (h63); have hmc := Nat.le_trans HM28.out hc; have hmc' : (M.length : Int) ≤ (c7 : Int) := (by omega); clear hb hr hc h63) | (go_at_call 16; refine (same_any (some ad7) A5 M.length c7 c5 M _ (by have hz := reads_prefix RT11.out HM28.out; rw [backN_take] at hz; exact hz) RM11.out (Nat.le_trans HM28.out C7.out) C5.out (by have := HM28.out; omega)).mono ?_; rintro e w12 ⟨rfl, hd⟩; have HB12 := Aside0.mk (below_step HB11.out hd.below); have BX12 := Aside0.mk (blk_below BX11.out hd.below); have RT12 := Aside0.mk (RT11.out.below hd.below); clear hd))
  go_loopw [15] (fun i wr => ∃ j : Nat, M.length ≤ j ∧ j ≤ 28 ∧ i = .int .i64 j ∧ Aside0 (Below w12.heap.size w12 wr)) (fun i _ => 28 - (intOf i).toNat)
  case atStart => exact ⟨M.length, Nat.le_refl _, hlm, rfl, ⟨Below.refl _ _⟩⟩
  case round =>
    obtain ⟨j, hj0, hj, rfl, KW⟩ := hrel
    by_cases hlt : j < 28
    · have hlt' : (j : Int) < 28 := by omega
      have hjn : (0 : Int) ≤ (j : Int) := Int.natCast_nonneg _
      obtain ⟨adq, he, hq⟩ := (RT12.out.below KW.out).2.2 (by decide)
      cases he
      have q0 := hq j hlt
      rw [backN_past M j hj0] at q0
      clear hq
      go_wp2
      go_roundw
      case rel => exact ⟨j + 1, by omega, by omega, by go_num, KW⟩
      case measure => simp [intOf]; omega
    · obtain rfl : j = 28 := by omega
      clear hlt hj0 hj
      have HBr := Aside0.mk (below_step HB12.out KW.out)
      have BXr := Aside0.mk (blk_below BX12.out KW.out)
      have RTr := Aside0.mk (RT12.out.below KW.out)
      by_cases h6 : 6 < xs.length
      · have g1 : (0 : Int) < (M.length : Int) := by have := HML.out; omega
        have g2 : (6 : Int) < (xs.length : Int) := by omega
        have g3 : decide ((0 : Int) < (M.length : Int)) = true := decide_eq_true g1
        have g4 : decide ((6 : Int) < (xs.length : Int)) = true := decide_eq_true g2
        have g5 : decide (0 < M.length) = true := decide_eq_true (by omega)
        have g6 : decide (6 < xs.length) = true := decide_eq_true h6
        go_wp2_with (first | ((with_reducible refine gate_dst (N := 92) rfl ?_); refine wpList_load_row rfl 41 (.tmp 7) (by kernel_rfl) ga (by kernel_rfl) _ _ _ _ BXr.out hu41.out rfl sizeInode ?_) | (go_at_call 14; refine (all_yes a k s l x0 x1 x2 x3 x4 x5 0 (some ad7) 28 c7 (backN M) xs.length _ HS.out RTr.out C7.out HMX.out HBK.out H34.out).mono ?_; rintro e w13 ⟨v9, rfl, ho, hb⟩; rw [HAL.out] at ho; obtain ⟨A9, c9, rfl, hr9, hc9, _, _⟩ := own_form ho; have R9 := Aside0.mk (hr9); have C9 := Aside0.mk (hc9); have HB13 := Aside0.mk (below_step HBr.out hb); have BX13 := Aside0.mk (blk_below BXr.out hb); clear hb ho hr9 hc9) | (go_at_call 16; refine (same_any A9 A1 xs.length c9 c1 xs _ R9.out (R1.out.below HB13.out) C9.out HC1.out (by have := H34.out; omega)).mono ?_; rintro e w14 ⟨rfl, hd⟩; have HB14 := Aside0.mk (below_step HB13.out hd.below); have BX14 := Aside0.mk (blk_below BX13.out hd.below); have c10 := (blk_cell (blk_below BX13.out hd.below) 10).trans (show (inoCells a k s l x0 x1 x2 x3 x4 x5 0)[10]? = some (.int .u32 0) from rfl); clear hd) | ((with_reducible refine gate_dst (N := 111) rfl ?_); refine BigFrame.wpList_want (by kernel_rfl) (fun K hK => ?_); refine wp_load_row 41 (.tmp 7) rfl ga (by kernel_rfl) _ _ _ _ BX14.out hu41.out rfl sizeInode ?_; refine hK _ _ ?_; clear hK) | (go_at_call 24; refine (may_any a k s l x0 x1 x2 x3 x4 x5 0 _ HS.out).mono ?_; rw [HMX.out]; rintro e w15 ⟨rfl, hb⟩; have HB15 := Aside0.mk (below_step HB14.out hb); clear hb c10))
        by_cases hm1 : m < 112
        · refine (take_short A2 m c2 _ hm1).mono ?_
          rintro e wt ⟨rfl, hb⟩
          have HBt := Aside0.mk (below_step HB15.out hb)
          have f1 : (m : Int) < 112 := by omega
          have f2 : decide ((m : Int) < 112) = true := decide_eq_true f1
          have f3 : decide ((112 : Int) < (m : Int)) = false := decide_eq_false (by omega)
          have f4 : ¬ (m : Int) = 112 := by omega
          clear hb hm1
          go_wp2_with (first | (go_at_call 12; refine (wakes_true _).mono ?_; rintro e wz ⟨rfl, hb⟩; have HBz := Aside0.mk (below_step HBt.out hb); clear hb))
          go_ret
          exact ⟨rfl, HBz.out⟩
        · by_cases hm2 : 112 < m
          · refine (take_long A2 m c2 _ hm2 R2.out.2.1).mono ?_
            rintro e wt ⟨rfl, hb⟩
            have HBt := Aside0.mk (below_step HB15.out hb)
            have f1 : (112 : Int) < (m : Int) := by omega
            have f2 : decide ((112 : Int) < (m : Int)) = true := decide_eq_true f1
            have f3 : decide ((m : Int) < 112) = false := decide_eq_false (by omega)
            have f4 : ¬ (m : Int) = 112 := by omega
            have f5 : ¬ (m : Int) < 112 := by omega
            clear hb hm1 hm2
            go_wp2_with (first | (go_at_call 12; refine (wakes_true _).mono ?_; rintro e wz ⟨rfl, hb⟩; have HBz := Aside0.mk (below_step HBt.out hb); clear hb))
            go_ret
            exact ⟨rfl, HBz.out⟩
          · obtain rfl : m = 112 := by omega
            obtain ⟨ad2, rfl, _⟩ := R2.out.2.2 (by decide)
            refine (take_rd ad2 c2 ys _ HC2.out HC263.out (R2.out.below HB15.out) HY.out _ rfl).mono ?_
            rintro e wt ⟨adt, ct, rfl, hrt, hct, _, hb⟩
            have HBt0 := Aside0.mk (below_step HB15.out hb)
            have RT := Aside0.mk hrt
            have CT := Aside0.mk hct
            clear hb hrt hct hm1 hm2
            go_wp2_with (first | (go_at_call 19; refine (put_any (some adt) 28 ct _ _ RT.out (by decide)).mono ?_; rintro e wp ⟨vp, rfl, ho, hb⟩; rw [put_words ys R2.out.1 HY.out] at ho; obtain ⟨adp, cp, rfl, hrp, _, _⟩ := own_some ho (by decide); have HBt := Aside0.mk (below_step HBt0.out hb); have s1 := string_of_reads (P := Try.prog) (src := 53) (dst := 9) Try.underlying53 Try.underlying5 Try.underlying9 (c := cp) hrp; have s2 := string_of_reads (P := Try.prog) (src := 53) (dst := 9) Try.underlying53 Try.underlying5 Try.underlying9 (c := c2) (R2.out.below HBt.out); clear hb hrp ho) | (go_at_call 12; refine (wakes_true _).mono ?_; rintro e wz ⟨rfl, hb⟩; have HBz := Aside0.mk (below_step HBt.out hb); clear hb))
            go_ret
            exact ⟨rfl, HBz.out⟩
      · have g1 : ¬ (0 : Int) < (M.length : Int) := by have := HML.out; omega
        have g2 : ¬ (6 : Int) < (xs.length : Int) := by omega
        have g3 : decide ((0 : Int) < (M.length : Int)) = false := decide_eq_false g1
        have g4 : decide ((6 : Int) < (xs.length : Int)) = false := decide_eq_false g2
        have g5 : decide (0 < M.length) = false := decide_eq_false (by omega)
        have g6 : decide (6 < xs.length) = false := decide_eq_false h6
        go_wp2_with (first | ((with_reducible refine gate_dst (N := 92) rfl ?_); refine wpList_load_row rfl 41 (.tmp 7) (by kernel_rfl) ga (by kernel_rfl) _ _ _ _ BXr.out hu41.out rfl sizeInode ?_) | (go_at_call 14; refine (all_yes a k s l x0 x1 x2 x3 x4 x5 0 (some ad7) 28 c7 (backN M) xs.length _ HS.out RTr.out C7.out HMX.out HBK.out H34.out).mono ?_; rintro e w13 ⟨v9, rfl, ho, hb⟩; rw [HAL.out] at ho; obtain ⟨A9, c9, rfl, hr9, hc9, _, _⟩ := own_form ho; have R9 := Aside0.mk (hr9); have C9 := Aside0.mk (hc9); have HB13 := Aside0.mk (below_step HBr.out hb); have BX13 := Aside0.mk (blk_below BXr.out hb); clear hb ho hr9 hc9) | (go_at_call 16; refine (same_any A9 A1 xs.length c9 c1 xs _ R9.out (R1.out.below HB13.out) C9.out HC1.out (by have := H34.out; omega)).mono ?_; rintro e w14 ⟨rfl, hd⟩; have HB14 := Aside0.mk (below_step HB13.out hd.below); have BX14 := Aside0.mk (blk_below BX13.out hd.below); have c10 := (blk_cell (blk_below BX13.out hd.below) 10).trans (show (inoCells a k s l x0 x1 x2 x3 x4 x5 0)[10]? = some (.int .u32 0) from rfl); clear hd) | ((with_reducible refine gate_dst (N := 111) rfl ?_); refine BigFrame.wpList_want (by kernel_rfl) (fun K hK => ?_); refine wp_load_row 41 (.tmp 7) rfl ga (by kernel_rfl) _ _ _ _ BX14.out hu41.out rfl sizeInode ?_; refine hK _ _ ?_; clear hK) | (go_at_call 24; refine (may_any a k s l x0 x1 x2 x3 x4 x5 0 _ HS.out).mono ?_; rw [HMX.out]; rintro e w15 ⟨rfl, hb⟩; have HB15 := Aside0.mk (below_step HB14.out hb); clear hb c10))
        by_cases hm1 : m < 112
        · refine (take_short A2 m c2 _ hm1).mono ?_
          rintro e wt ⟨rfl, hb⟩
          have HBt := Aside0.mk (below_step HB15.out hb)
          have f1 : (m : Int) < 112 := by omega
          have f2 : decide ((m : Int) < 112) = true := decide_eq_true f1
          have f3 : decide ((112 : Int) < (m : Int)) = false := decide_eq_false (by omega)
          have f4 : ¬ (m : Int) = 112 := by omega
          clear hb hm1
          go_wp2_with (first | (go_at_call 12; refine (wakes_true _).mono ?_; rintro e wz ⟨rfl, hb⟩; have HBz := Aside0.mk (below_step HBt.out hb); clear hb))
          go_ret
          exact ⟨rfl, HBz.out⟩
        · by_cases hm2 : 112 < m
          · refine (take_long A2 m c2 _ hm2 R2.out.2.1).mono ?_
            rintro e wt ⟨rfl, hb⟩
            have HBt := Aside0.mk (below_step HB15.out hb)
            have f1 : (112 : Int) < (m : Int) := by omega
            have f2 : decide ((112 : Int) < (m : Int)) = true := decide_eq_true f1
            have f3 : decide ((m : Int) < 112) = false := decide_eq_false (by omega)
            have f4 : ¬ (m : Int) = 112 := by omega
            have f5 : ¬ (m : Int) < 112 := by omega
            clear hb hm1 hm2
            go_wp2_with (first | (go_at_call 12; refine (wakes_true _).mono ?_; rintro e wz ⟨rfl, hb⟩; have HBz := Aside0.mk (below_step HBt.out hb); clear hb))
            go_ret
            exact ⟨rfl, HBz.out⟩
          · obtain rfl : m = 112 := by omega
            obtain ⟨ad2, rfl, _⟩ := R2.out.2.2 (by decide)
            refine (take_rd ad2 c2 ys _ HC2.out HC263.out (R2.out.below HB15.out) HY.out _ rfl).mono ?_
            rintro e wt ⟨adt, ct, rfl, hrt, hct, _, hb⟩
            have HBt0 := Aside0.mk (below_step HB15.out hb)
            have RT := Aside0.mk hrt
            have CT := Aside0.mk hct
            clear hb hrt hct hm1 hm2
            go_wp2_with (first | (go_at_call 19; refine (put_any (some adt) 28 ct _ _ RT.out (by decide)).mono ?_; rintro e wp ⟨vp, rfl, ho, hb⟩; rw [put_words ys R2.out.1 HY.out] at ho; obtain ⟨adp, cp, rfl, hrp, _, _⟩ := own_some ho (by decide); have HBt := Aside0.mk (below_step HBt0.out hb); have s1 := string_of_reads (P := Try.prog) (src := 53) (dst := 9) Try.underlying53 Try.underlying5 Try.underlying9 (c := cp) hrp; have s2 := string_of_reads (P := Try.prog) (src := 53) (dst := 9) Try.underlying53 Try.underlying5 Try.underlying9 (c := c2) (R2.out.below HBt.out); clear hb hrp ho) | (go_at_call 12; refine (wakes_true _).mono ?_; rintro e wz ⟨rfl, hb⟩; have HBz := Aside0.mk (below_step HBt.out hb); clear hb))
            go_ret
            exact ⟨rfl, HBz.out⟩
theorem back_law (a k s l d0 d1 d2 d3 d4 d5 p : Int) (A1 A2 : Option Addr) (n1 c1 m c2 : Nat) (xs ys : List Int) (w : World) (hs : s ≤ 9223372036854775807)
    (hr1 : ReadsInt w .u32 A1 n1 xs) (hr2 : ReadsInt w .u8 A2 m ys) (h1 : n1 * 4 ≤ 140737488355328) (hc1 : n1 ≤ c1) (hc63 : c1 ≤ 9223372036854775807) (hnil : A1 = none → n1 = 0 ∧ c1 = 0) (hc2 : m ≤ c2) (hc263 : c2 ≤ 9223372036854775807) (hx : ∀ x ∈ xs, 0 ≤ x ∧ x < 4294967296) (hy : ∀ x ∈ ys, 0 ≤ x ∧ x < 256) :
    Calls Try.prog 9 #[.agg (inoCells a k s l d0 d1 d2 d3 d4 d5 p), .slice A1 n1 c1, .slice A2 m c2] w fun e w' => e = .returned (.bool true) ∧ Below w.heap.size w w' := by
  obtain rfl : xs.length = n1 := hr1.1
  by_cases hok : mayB a k s l [0, 0, 0, 0, 0, 0] 0 = true ∧ (xs.length : Int) = blk s
  · obtain ⟨m34, hb34, h34⟩ := may_blk hok.1
    have hl34 : xs.length ≤ 34 := by have := hok.2; omega
    have hdx : ∀ x ∈ xs.drop 6, 0 ≤ x ∧ x < 4294967296 := fun x h => hx x (List.mem_of_mem_drop h)
    refine back_yes a k s l d0 d1 d2 d3 d4 d5 p A1 A2 c1 m c2 xs ys w hs hr1 hr2 h1 hc1 hc63 hnil hc2 hc263 hy (xs.drop 6) _ _ _ _ _ _ hok.1 hok.2.symm (may_back hok.1 hok.2.symm) hl34 (by rw [List.length_drop]) (all_back xs hl34) (words_put _ (by rw [List.length_drop]; omega) hdx) ?_
    intro W hr
    have := spread_any a k s l d0 d1 d2 d3 d4 d5 p A1 xs.length c1 xs W hs hr h1 hc1 hc63 hnil
    have e1 : spreadR a k s l xs = (inoCells a k s l (xs.getD 0 0) (xs.getD 1 0) (xs.getD 2 0) (xs.getD 3 0) (xs.getD 4 0) (xs.getD 5 0) 0, xs.drop 6, 0) := by unfold spreadR; rw [hok.1, decide_eq_true hok.2]; rfl
    rw [e1] at this
    exact this
  · exact back_no a k s l d0 d1 d2 d3 d4 d5 p A1 A2 c1 m c2 xs ys w hs hr1 hr2 h1 hc1 hc63 hnil hc2 hc263 hy _ rfl (fun h1 h2 => hok ⟨h1, h2⟩)
end Go.Proofs.YtjpjjddkbohbpaaX
