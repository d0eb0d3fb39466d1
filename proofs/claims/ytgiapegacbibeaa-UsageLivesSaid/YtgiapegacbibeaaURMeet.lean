/- The document's look: meet. -/
import Derived.Test.YtgiapegacbibeaaURPlace
namespace Go.Proofs.Ytgiapegacbibeaa.UM
open Go.RowKit Go.Proofs.YtgiapegacbibeaaX Go.Proofs.YtgiapegacbibeaaW.PrintWords
set_option linter.unusedVariables false
theorem sizeSlU : (Try.prog.info? 71).map (·.size) = some 1 := by kernel_rfl
abbrev rlookCells (K N S : Int) (sv : Value) (gv n : Nat) : Array Value := #[.int .i64 K, .int .i64 N, .int .i64 S, sv, .slice (some ⟨gv, 0, none⟩) n n]
/-- What the document's look is in memory. -/
structure RL (W : World) (gl gv n B : Nat) (K N S : Int) (sv : Value) (r v : List Int) : Prop where
  blk : W.heap[gl]? = some (.cells (rlookCells K N S sv gv n) 73 (0, 0))
  seen : W.ownsRow B 24 1 sv r.length (nums .u32 r)
  vec : W.heap[gv]? = some (.cells (nums .i64 v).toArray 3 (0, 0))
  ne : gl ≠ gv
  base : B ≤ W.heap.size
theorem RL.lts {W : World} {gl gv n B : Nat} {K N S : Int} {sv : Value} {r v : List Int} (h : RL W gl gv n B K N S sv r v) : gl < W.heap.size ∧ gv < W.heap.size := ⟨blk_lt h.blk, blk_lt h.vec⟩
theorem RL.below {W : World} {gl gv n B : Nat} {K N S : Int} {sv : Value} {r v : List Int} {W1 : World} (h : RL W gl gv n B K N S sv r v) (hb : Below W.heap.size W W1) : RL W1 gl gv n B K N S sv r v :=
  ⟨blk_below h.blk hb, pw_own_below h.seen hb, blk_below h.vec hb, h.ne, Nat.le_trans h.base hb.size⟩
theorem RL.range {W : World} {gl gv n B : Nat} {K N S : Int} {sv : Value} {r v : List Int} (h : RL W gl gv n B K N S sv r v) : W.rangeAt gl 0 [.int .i64 K, .int .i64 N, .int .i64 S] := World.rangeAt_of_block h.blk 0 3
theorem RL.c0 {W : World} {gl gv n B : Nat} {K N S : Int} {sv : Value} {r v : List Int} (h : RL W gl gv n B K N S sv r v) : W.cell? ⟨gl, 0, none⟩ = some (.int .i64 K) := blk_cell h.blk 0
theorem RL.c3 {W : World} {gl gv n B : Nat} {K N S : Int} {sv : Value} {r v : List Int} (h : RL W gl gv n B K N S sv r v) : W.cell? ⟨gl, 3, none⟩ = some sv := blk_cell h.blk 3
theorem RL.c4 {W : World} {gl gv n B : Nat} {K N S : Int} {sv : Value} {r v : List Int} (h : RL W gl gv n B K N S sv r v) : W.cell? ⟨gl, 4, none⟩ = some (.slice (some ⟨gv, 0, none⟩) n n) := blk_cell h.blk 4
/-- What a call may write. -/
def SS (gl gv : Nat) (sv : Value) (k : Nat) : Prop := k = gl ∨ k = gv ∨ sv.ownBlock = some k
theorem SS.gl {gl k : Nat} (gv : Nat) (sv : Value) (h : k = gl) : SS gl gv sv k := Or.inl h
theorem SS.gv {gv k : Nat} (gl : Nat) (sv : Value) (h : k = gv) : SS gl gv sv k := Or.inr (Or.inl h)
theorem SS.own (gl gv : Nat) {k : Nat} {sv : Value} (h : sv.ownBlock = some k) : SS gl gv sv k := Or.inr (Or.inr h)
/-- The list of those seen lies where it lay, or in new memory. -/
def OwnB (w : World) (sv sv' : Value) : Prop := sv'.ownBlock = sv.ownBlock ∨ ∃ b, sv'.ownBlock = some b ∧ w.heap.size ≤ b
def RMP (w : World) (gl gv n B : Nat) (K N S : Int) (sv : Value) (r v : List Int) (s : Nat) (a y : Int) (e : Ending) (w' : World) : Prop :=
  (a ∈ r → e = .returned (.int .i64 5) ∧ Below w.heap.size w w') ∧
  (a ∉ r → e = .returned (.int .i64 0) ∧ ∃ sv', RL w' gl gv n B K N S sv' (r ++ [a]) (v.set s (y + 1)) ∧ Kp w w' (SS gl gv sv) ∧ OwnB w sv sv')
set_option maxHeartbeats 2000000 in
set_option maxRecDepth 100000 in
theorem rmeet_bad (w : World) (gl gv n B : Nat) (K N S : Int) (sv : Value) (r v : List Int) (a : Int) (hL : RL w gl gv n B K N S sv r v) (ha : 0 ≤ a ∧ a < 4294967296) (s b x : Int) (hP : Go.Proofs.Ytgiapegacbibeaa.PUsageLives.usage_Place.f K N S a = some (s, b, x)) (hx : ¬ x = 0) :
    Calls Try.prog 32 #[.pointer (some ⟨gl, 0, none⟩), .int .u32 a] w fun e w' => e = .returned (.int .i64 5) ∧ Below w.heap.size w w' := by
  have hu23 := Aside0.mk Try.underlying23
  have HL0 := Aside0.mk hL
  have HA := Aside0.mk ha
  have HP := Aside0.mk hP
  clear hL ha hP
  go_enter Try.func32, Try.ntmps32
  go_wp2_with (first
    | ((with_reducible refine gate_dst (N := 13) rfl ?_); refine wpList_load_mid rfl 23 (.tmp 12) (by kernel_rfl) gl 0 (by kernel_rfl) [.int .i64 K, .int .i64 N, .int .i64 S] _ (HL0.out.range) hu23.out rfl sizeGeo ?_)
    | (go_at_call 10; refine (rplace_any K N S a s b x _ HA.out HP.out).mono ?_; rintro e w1 ⟨rfl, hb⟩; have HB1 := Aside0.mk (hb); have HL1 := Aside0.mk (HL0.out.below hb); have k0 := HL1.out.c0; clear hb))
  go_ret
  exact ⟨rfl, HB1.out⟩
set_option maxHeartbeats 2000000 in
set_option maxRecDepth 100000 in
theorem rmeet_sum (w : World) (gl gv n B : Nat) (K N S : Int) (sv : Value) (r v : List Int) (a : Int) (hL : RL w gl gv n B K N S sv r v) (ha : 0 ≤ a ∧ a < 4294967296) (s b : Int) (hP : Go.Proofs.Ytgiapegacbibeaa.PUsageLives.usage_Place.f K N S a = some (s, b, 0)) (hK : 1 ≤ K ∧ K ≤ 255) (hb : 0 ≤ b ∧ b ≤ 1020) (hx : 15 * b < 4 * K) :
    Calls Try.prog 32 #[.pointer (some ⟨gl, 0, none⟩), .int .u32 a] w fun e w' => e = .returned (.int .i64 5) ∧ Below w.heap.size w w' := by
  have hu23 := Aside0.mk Try.underlying23
  have HL0 := Aside0.mk hL
  have HA := Aside0.mk ha
  have HP := Aside0.mk hP
  clear hL ha hP
  go_enter Try.func32, Try.ntmps32
  go_wp2_with (first
    | ((with_reducible refine gate_dst (N := 13) rfl ?_); refine wpList_load_mid rfl 23 (.tmp 12) (by kernel_rfl) gl 0 (by kernel_rfl) [.int .i64 K, .int .i64 N, .int .i64 S] _ (HL0.out.range) hu23.out rfl sizeGeo ?_)
    | (go_at_call 10; refine (rplace_any K N S a s b 0 _ HA.out HP.out).mono ?_; rintro e w1 ⟨rfl, hb⟩; have HB1 := Aside0.mk (hb); have HL1 := Aside0.mk (HL0.out.below hb); have k0 := HL1.out.c0; clear hb))
  go_ret
  exact ⟨rfl, HB1.out⟩
set_option maxHeartbeats 2000000 in
set_option maxRecDepth 100000 in
theorem rmeet_scan (w : World) (gl gv n B : Nat) (K N S : Int) (sv : Value) (r v : List Int) (a : Int) (hL : RL w gl gv n B K N S sv r v) (ha : 0 ≤ a ∧ a < 4294967296) (s : Nat) (b y : Int) (hP : Go.Proofs.Ytgiapegacbibeaa.PUsageLives.usage_Place.f K N S a = some ((s : Int), b, 0)) (hK : 1 ≤ K ∧ K ≤ 255) (hb : 0 ≤ b ∧ b ≤ 1020) (hx : ¬ 15 * b < 4 * K) (hsn : s < n) (hn : n ≤ 128) (hv : v.length = n) (hy : v.getD s 0 = y) (hy1 : 0 ≤ y ∧ y ≤ 4611686018427387904) (hl : r.length ≤ 1000000) :
    Calls Try.prog 32 #[.pointer (some ⟨gl, 0, none⟩), .int .u32 a] w (RMP w gl gv n B K N S sv r v s a y) := by
  have hu23 := Aside0.mk Try.underlying23
  have HL0 := Aside0.mk hL
  have HA := Aside0.mk ha
  have HP := Aside0.mk hP
  have q2 : (s : Int) < (n : Int) := by omega
  have q3 : (0 : Int) ≤ (s : Int) := Int.natCast_nonneg _
  have HY := Aside0.mk (show (nums .i64 v).toArray[s]? = some (.int .i64 y) by rw [← hy, List.getD_eq_getElem?_getD]; simp [nums, hv, hsn])
  have HVS := Aside0.mk (show s + 1 ≤ v.length by omega)
  have HVL := Aside0.mk (show s < v.length by omega)
  have NE := Aside0.mk hL.ne
  have HLE := Aside0.mk hl
  obtain ⟨A, c, rfl, hR0⟩ := own_reads hL.seen
  have HR := Aside0.mk hR0
  clear hL ha hP hsn hv hy hR0 hl
  go_enter Try.func32, Try.ntmps32
  go_wp2_with (first
    | ((with_reducible refine gate_dst (N := 13) rfl ?_); refine wpList_load_mid rfl 23 (.tmp 12) (by kernel_rfl) gl 0 (by kernel_rfl) [.int .i64 K, .int .i64 N, .int .i64 S] _ (HL0.out.range) hu23.out rfl sizeGeo ?_)
    | (go_at_call 10; refine (rplace_any K N S a (s : Int) b 0 _ HA.out HP.out).mono ?_; rintro e w1 ⟨rfl, hb⟩; have HB1 := Aside0.mk (hb); have HL1 := Aside0.mk (HL0.out.below hb); have k0 := HL1.out.c0; clear hb))
  go_loopw [8] (fun i wr => ∃ j : Nat, j ≤ r.length ∧ i = .int .i64 j ∧ Aside0 (∀ k, k < j → r.getD k 0 ≠ a) ∧ Aside0 (RL wr gl gv n B K N S (.slice A r.length c) r v) ∧ Aside0 (Below w.heap.size w wr)) (fun i _ => r.length - (intOf i).toNat)
  case atStart => exact ⟨0, Nat.zero_le _, rfl, ⟨fun k hk => absurd hk (Nat.not_lt_zero k)⟩, HL1, HB1⟩
  case round =>
    obtain ⟨j, hj, rfl, HN, HL, HB⟩ := hrel
    clear HL1 HB1 HL0 k0
    have k3 := HL.out.c3
    have hj0 : (0 : Int) ≤ (j : Int) := Int.natCast_nonneg _
    have hr63 : r.length ≤ 9223372036854775807 := HR.out.2.1
    by_cases hlt : j < r.length
    · have hjm : (j : Int) < (r.length : Int) := by omega
      obtain ⟨ad, rfl, _⟩ := HR.out.2.2 (by omega)
      have cj := cell_of_reads (own_reads' HL.out.seen) j hlt
      obtain ⟨x, hx2⟩ : ∃ x, r.getD j 0 = x := ⟨_, rfl⟩
      rw [hx2] at cj
      by_cases he : x = a
      · have hm : a ∈ r := by
          rw [← he, ← hx2, List.getD_eq_getElem?_getD, List.getElem?_eq_getElem hlt]
          exact List.getElem_mem _
        subst he
        clear hx2
        have HM := Aside0.mk hm
        clear hm
        go_wp2
        go_ret
        exact ⟨fun _ => ⟨rfl, HB.out⟩, fun h => absurd HM.out h⟩
      · have heb : (x == a) = false := beq_eq_false_iff_ne.2 he
        have HN2 := Aside0.mk (show ∀ k, k < j + 1 → r.getD k 0 ≠ a from fun k hk => (Nat.lt_succ_iff_lt_or_eq.1 hk).elim (HN.out k) (fun e => by rw [e, hx2]; exact he))
        clear hx2 he
        go_wp2
        go_roundw
        case rel => exact ⟨j + 1, by omega, by go_num, HN2, HL, HB⟩
        case measure => simp [intOf]; omega
    · obtain rfl : j = r.length := by omega
      have hnm : a ∉ r := by
        intro hm
        obtain ⟨k, hk, he⟩ := List.getElem_of_mem hm
        exact HN.out k hk (by rw [List.getD_eq_getElem?_getD, List.getElem?_eq_getElem hk]; exact he)
      have HM := Aside0.mk hnm
      clear hnm hlt hj HN
      go_wp2_with (first
    | (at_builtin; with_reducible refine gate_dst (N := 57) rfl ?_; refine print_append_num (w0 := wr) B rfl (.tmp 54) (.tmp 56) 71 24 .u32 4 rfl Try.underlying71 infoU32 (by omega) (.slice A r.length c) r a rfl rfl HL.out.seen (Below.refl B wr) HL.out.base (by have := HLE.out; omega) ?_; intro v2 w4 ho hb4 hg4 hat; have BL4 := Aside0.mk (blk_grown HL.out.blk hg4 (own_ne HL.out.seen HL.out.blk (by decide))); have BV4 := Aside0.mk (blk_grown HL.out.vec hg4 (own_ne HL.out.seen HL.out.vec (by decide))); have KP4 := Aside0.mk (Kp.of_grown hg4 (Kp.of_below HB.out (SS gl gv (.slice A r.length c))) (fun k e => .inl (SS.own gl gv e))); have OW4 := Aside0.mk (hat); have SZ4 := Aside0.mk (hg4.size); obtain ⟨A2, c2, he2, hc2⟩ := own_reads ho; have HO4 := Aside0.mk (ho); have HE2 := Aside0.mk (he2); clear ho hb4 hg4 hat hc2 he2 k3)
    | ((with_reducible refine gate_store (t := 71) (p := 59) (v := .tmp 57) rfl ?_); refine ev_store (by rfl) 71 (.tmp 59) (.tmp 57) (by rfl) gl 3 (rlookCells K N S (.slice A r.length c) gv n).toList [v2] v2 (by kernel_rfl) (by kernel_rfl) (by rw [HE2.out]; rfl) 73 BL4.out sizeSlU (by show 3 + 1 ≤ 5; decide) (by intro u hu; obtain rfl := List.mem_singleton.1 hu; rw [HE2.out]; rfl) ?_; intro w5 hbox hg5; have BL5 := Aside0.mk (show w5.heap[gl]? = some (.cells (rlookCells K N S v2 gv n) 73 (0, 0)) from hbox); have BV5 := Aside0.mk (blk_grown BV4.out hg5 (fun e => NE.out (Option.some.inj e).symm)); have HO5 := Aside0.mk (own_other HO4.out hg5 (.inr (fun e => own_ne HO4.out BL4.out (by decide) e.symm))); have KP5 := Aside0.mk (Kp.of_grown hg5 KP4.out (fun k e => .inl (SS.gl gv _ (Option.some.inj e).symm))); have SZ5 := Aside0.mk (Nat.le_trans SZ4.out hg5.size); clear hbox hg5; have k4 : w5.cell? ⟨gl, 4, none⟩ = some (.slice (some ⟨gv, 0, none⟩) n n) := blk_cell BL5.out 4; have kv : w5.cell? ⟨gv, s, none⟩ = some (.int .i64 y) := by have h1 := blk_cell BV5.out s; rw [h1]; exact HY.out)
    | ((with_reducible refine gate_store (t := 3) (p := 68) (v := .tmp 67) rfl ?_); refine ev_store (by rfl) 3 (.tmp 68) (.tmp 67) (by rfl) gv s (nums .i64 v) (nums .i64 [y + 1]) (.int .i64 (y + 1)) (by kernel_rfl) (by rfl) (by rfl) 3 BV5.out sizeInt (by rw [nums_length, nums_length]; exact HVS.out) (one_nums _ _) ?_; intro w6 hbox hg; rw [nums_set _ _ _ _ HVL.out] at hbox; have BV6 := Aside0.mk (hbox); have BL6 := Aside0.mk (blk_grown BL5.out hg (fun e => NE.out (Option.some.inj e))); have HO6 := Aside0.mk (own_other HO5.out hg (.inr (fun e => own_ne HO5.out BV5.out (by decide) e.symm))); have KP6 := Aside0.mk (Kp.of_grown hg KP5.out (fun k e => .inl (SS.gv gl _ (Option.some.inj e).symm))); have SZ6 := Aside0.mk (Nat.le_trans SZ5.out hg.size); clear hbox hg k4 kv))
      go_ret
      exact ⟨fun h => absurd h HM.out, fun _ => ⟨rfl, _, ⟨BL6.out, HO6.out, BV6.out, NE.out, Nat.le_trans HL.out.base SZ6.out⟩, KP6.out, OW4.out.imp id (fun ⟨b, h1, h2⟩ => ⟨b, h1, Nat.le_trans HB.out.size h2⟩)⟩⟩
end Go.Proofs.Ytgiapegacbibeaa.UM
