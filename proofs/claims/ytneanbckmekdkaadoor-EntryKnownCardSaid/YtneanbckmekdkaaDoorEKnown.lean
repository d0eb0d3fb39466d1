/- EntryKnown: the law's own walk. -/
import Derived.Test.YtneanbckmekdkaaDoorESet
import Derived.Test.YtneanbckmekdkaaDoorEBack
namespace Go.Proofs.YtneanbckmekdkaaDoor.EN
open Go Go.RowKit Go.Proofs.YtneanbckmekdkaaDoorX Go.Proofs.YtneanbckmekdkaaDoor.NM Go.Proofs.YtneanbckmekdkaaDoorW.PrintWords Go.Proofs.YtneanbckmekdkaaDoorW.PrintLast Go.Proofs.YtneanbckmekdkaaDoorW.PrintMore Go.Proofs.YtneanbckmekdkaaDoor.PEntryForms
set_option linter.unusedVariables false
set_option linter.unusedSimpArgs false
def knE (i : Nat) : S42 := ⟨1 + (i : Int), ⟨#[110]⟩ ++ strOfNums [48 + (i : Int) / 10, 48 + (i : Int) % 10]⟩
def knL (j : Nat) : List S42 := (List.range j).map knE
theorem knL_succ (j : Nat) : knL (j + 1) = knL j ++ [knE j] := by simp [knL, List.range_succ]
theorem knL_length (j : Nat) : (knL j).length = j := by simp [knL]
theorem kn_may : mayE (knL 64) = true := by decide +kernel
theorem kn_sz (j : Nat) : (knE j).f1.size ≤ 140737488351232 := by
  show (ByteArray.size (⟨#[110]⟩ ++ strOfNums [48 + (j : Int) / 10, 48 + (j : Int) % 10])) ≤ _
  rw [ByteArray.size_append, strOfNums_size]
  show (1 : Nat) + 2 ≤ _
  decide
theorem kn_full : insErr (knL 64) ⟨1, ⟨#[122]⟩⟩ = some 40 := by decide +kernel
theorem kn_there : insErr (knL 64) ⟨1, ⟨#[110, 48, 48]⟩⟩ = some 33 := by decide +kernel
theorem kn_set0 : setErr (knL 64) ⟨#[120]⟩ 0 = some 1 := by decide +kernel
theorem kn_set1 : setErr (knL 64) ⟨#[120]⟩ 1 = some 32 := by decide +kernel
theorem kn_small : ∀ x ∈ knL 64, x.f1.size ≤ 24 := ((mayE_iff _).1 kn_may).sizes
theorem kn_more : mayE (knL 64 ++ [⟨1, ⟨#[122]⟩⟩]) = false := by unfold mayE; rw [decide_eq_false (by rw [List.length_append, knL_length]; decide), Bool.false_and]
structure KF (L : List S42) : Prop where
  len : L.length = 64
  may : mayE L = true
  full : insErr L ⟨1, ⟨#[122]⟩⟩ = some 40
  there : insErr L ⟨1, ⟨#[110, 48, 48]⟩⟩ = some 33
  set0 : setErr L ⟨#[120]⟩ 0 = some 1
  set1 : setErr L ⟨#[120]⟩ 1 = some 32
  small : ∀ x ∈ L, x.f1.size ≤ 24
  more : mayE (L ++ [⟨1, ⟨#[122]⟩⟩]) = false
theorem kn_facts : KF (knL 64) := ⟨knL_length 64, kn_may, kn_full, kn_there, kn_set0, kn_set1, kn_small, kn_more⟩
theorem kn_65 {L : List S42} (F : KF L) : takeE (putL L ++ (putL L).take 28) = none := by
  cases h : takeE (putL L ++ (putL L).take 28) with
  | none => rfl
  | some y =>
    obtain ⟨h1, h2⟩ := take_some h
    have hy := (mayE_iff y).1 h1
    have h3 := putL_length y hy.sizes
    have h4 := putL_length L F.small
    rw [F.len] at h4
    rw [h2, List.length_append, List.length_take, h4] at h3
    have := hy.1
    omega
theorem kn_zero : takeE (List.replicate 28 0) = none := by kernel_rfl
theorem kn_nil : takeE [] = some [] := by kernel_rfl
theorem kn_bad : insErr [⟨0, ⟨#[]⟩⟩] ⟨0, ⟨#[47]⟩⟩ = some 1 := by kernel_rfl
theorem kn_big : insErr [] ⟨65, ⟨#[97]⟩⟩ = some 1 := by kernel_rfl
theorem reads_new (W : World) (k : IntKind) (e : TypeId) (xs : List Int) (h : xs.length ≤ 9223372036854775807) : ReadsInt (W.alloc (.cells (nums k xs).toArray e)) k (some ⟨W.heap.size, 0, none⟩) xs.length xs :=
  own_reads' (own_lit W W.heap.size e k xs (Nat.le_refl _) h)
theorem kn_z {L : List S42} (F : KF L) : ∀ x ∈ L ++ [⟨1, ⟨#[122]⟩⟩], x.f1.size ≤ 140737488351232 := by
  intro x hx
  rcases List.mem_append.1 hx with h | h
  · have := F.small x h; omega
  · simp only [List.mem_cons, List.not_mem_nil, or_false] at h
    rw [h]; decide
theorem kn_tk (PB : List Int) (hl : PB.length = 1820) (ht : takeE PB = none) (hr : ∀ x ∈ PB, 0 ≤ x ∧ x < 256) (W : World) (A : Option Addr) (c : Nat) (h : ReadsInt W .u8 A 1820 PB) (hc : 1820 ≤ c) (hT : Lib.Utf8Tabs 1 2 W) :
    Calls Tryd.prog 12 #[.slice A 1820 c] W fun e w' => e = .returned (.tuple #[.slice none 0 0, .int .i64 5]) ∧ Below W.heap.size W w' := by
  have h1 := take_any A c PB W (by rw [hl]; exact hc) (by rw [hl]; decide) (by rw [hl]; exact h) hr hT
  rw [ht, hl] at h1
  refine Calls.mono h1 ?_
  rintro e w' ⟨v, x, rfl, ⟨rfl, rfl⟩, hb⟩
  exact ⟨rfl, hb⟩
theorem kn_ins1 (w : World) (hT : Lib.Utf8Tabs 1 2 w) :
    Calls Tryd.prog 20 #[.slice (some ⟨w.heap.size, 0, none⟩) 1 1, .agg #[.int .i64 0, .string ⟨#[47]⟩]] (w.alloc (.cells #[.int .i64 0, .string ⟨#[]⟩] 42)) fun e w' => e = .returned (.tuple #[.slice none 0 0, .int .i64 1]) ∧ Below w.heap.size w w' := by
  have hb0 := below_alloc (Below.refl w.heap.size w) (.cells #[.int .i64 0, .string ⟨#[]⟩] 42)
  refine (ins_err (some ⟨w.heap.size, 0, none⟩) 1 [⟨0, ⟨#[]⟩⟩] 0 ⟨#[47]⟩ (w.alloc (.cells #[.int .i64 0, .string ⟨#[]⟩] 42)) (row_new w [⟨0, ⟨#[]⟩⟩] (by decide) (by decide +kernel)) (by decide +kernel) (by decide) (Utf8Tabs_below hT hb0) (by decide) 1 kn_bad).mono ?_
  rintro e w' ⟨rfl, hb⟩
  exact ⟨rfl, below_step hb0 hb⟩
theorem kn_take0 (W : World) (hT : Lib.Utf8Tabs 1 2 W) :
    Calls Tryd.prog 12 #[.slice none 0 0] W fun e w' => ∃ A c, e = .returned (.tuple #[.slice A 0 c, .int .i64 0]) ∧ Below W.heap.size W w' := by
  have h1 := take_any none 0 [] W (by decide) (by decide) ⟨rfl, by decide, fun h => absurd h (by decide)⟩ (fun x hx => by cases hx) hT
  rw [kn_nil] at h1
  refine Calls.mono h1 ?_
  rintro e w' ⟨v, x, rfl, ⟨rfl, ho⟩, hb⟩
  obtain ⟨A, c, rfl⟩ := own_slice ho
  exact ⟨A, c, rfl, hb⟩
theorem reads_blk {W : World} {g : Nat} {k : IntKind} {e : TypeId} {xs : List Int} (h : W.heap[g]? = some (.cells (nums k xs).toArray e (0, 0))) (hl : xs.length ≤ 9223372036854775807) : ReadsInt W k (some ⟨g, 0, none⟩) xs.length xs :=
  ⟨rfl, hl, fun _ => ⟨_, rfl, fun j hj => by
    rw [add_plain, blk_cell h j]
    simp [nums, List.getD_eq_getElem?_getD, hj]⟩⟩
theorem kn_take28 (W : World) (g : Nat) (h : W.heap[g]? = some (.cells (nums .u8 (List.replicate 28 0)).toArray 5 (0, 0))) (hT : Lib.Utf8Tabs 1 2 W) :
    Calls Tryd.prog 12 #[.slice (some ⟨g, 0, none⟩) 28 28] W fun e w' => e = .returned (.tuple #[.slice none 0 0, .int .i64 5]) ∧ Below W.heap.size W w' := by
  have h1 := take_any (some ⟨g, 0, none⟩) 28 (List.replicate 28 0) W (by decide) (by decide) (reads_blk h (by decide)) (fun x hx => by have := List.eq_of_mem_replicate hx; omega) hT
  rw [kn_zero] at h1
  refine Calls.mono h1 ?_
  rintro e w' ⟨v, x, rfl, ⟨rfl, rfl⟩, hb⟩
  exact ⟨rfl, hb⟩
theorem kn_ins2 (w : World) (hT : Lib.Utf8Tabs 1 2 w) :
    Calls Tryd.prog 20 #[.slice none 0 0, .agg #[.int .i64 65, .string ⟨#[97]⟩]] w fun e w' => e = .returned (.tuple #[.slice none 0 0, .int .i64 1]) ∧ Below w.heap.size w w' :=
  ins_err none 0 [] 65 ⟨#[97]⟩ w (row_none w) (fun x hx => by cases hx) (by decide) hT (by decide) 1 kn_big
set_option maxHeartbeats 4000000 in
set_option maxRecDepth 100000 in
theorem known_walk (w : World) (hT : Lib.Utf8Tabs 1 2 w) : Calls Tryd.prog 6 #[] w fun e w' => e = .returned (.bool true) ∧ Below w.heap.size w w' := by
  have HT := Aside0.mk hT
  clear hT
  go_enter Tryd.func6, Tryd.ntmps6
  go_wp2
  go_loopw [1, 2] (fun v i wr => ∃ j : Nat, j ≤ 64 ∧ i = .int .i64 j ∧ Aside0 (wr.ownsRow w.heap.size 42 2 v j (rowsE (knL j))) ∧ Aside0 (Below w.heap.size w wr)) (fun _ i _ => 64 - (intOf i).toNat)
  case atStart => exact ⟨0, Nat.zero_le _, rfl, ⟨own_nil _ _ _ _⟩, ⟨Below.refl _ _⟩⟩
  case round =>
    obtain ⟨j, hj, rfl, HO, HW⟩ := hrel
    by_cases hlt : j < 64
    · have hlt' : (j : Int) < 64 := by omega
      have hj0 : (0 : Int) ≤ (j : Int) := Int.natCast_nonneg _
      have HJ := Aside0.mk hlt
      clear hj hlt
      have hcv := string_of_reads (P := Tryd.prog) (src := 23) (dst := 9) Tryd.underlying23 Tryd.underlying5 Tryd.underlying9 (c := 2) (reads_new wr .u8 5 [48 + (j : Int) / 10, 48 + (j : Int) % 10] (by simp))
      have HE := Aside0.mk (show rowsE (knL j) ++ [.int .i64 (1 + (j : Int)), .string (⟨#[110]⟩ ++ strOfNums [48 + (j : Int) / 10, 48 + (j : Int) % 10])] = rowsE (knL (j + 1)) from by rw [knL_succ, rowsE_snoc]; rfl)
      simp only [nums, List.map_cons, List.map_nil, List.length_cons, List.length_nil, Nat.zero_add, Nat.reduceAdd] at hcv
      have hro := row_new (wr.alloc (.cells #[.int .u8 (48 + (j : Int) / 10), .int .u8 (48 + (j : Int) % 10)] 5)) [knE j] (by simp) (fun x hx => by simp only [List.mem_cons, List.not_mem_nil, or_false] at hx; rw [hx]; exact kn_sz j)
      have hro2 : Row ((wr.alloc (.cells #[.int .u8 (48 + (j : Int) / 10), .int .u8 (48 + (j : Int) % 10)] 5)).alloc (.cells #[.int .i64 (1 + (j : Int)), .string (⟨#[110]⟩ ++ strOfNums [48 + (j : Int) / 10, 48 + (j : Int) % 10])] 42)) (some ⟨(wr.alloc (.cells #[.int .u8 (48 + (j : Int) / 10), .int .u8 (48 + (j : Int) % 10)] 5)).heap.size, 0, none⟩) [knE j] := hro
      clear hro
      simp only [World.size_alloc] at hro2
      have HRO := Aside0.mk hro2
      clear hro2
      go_wp2_with (at_builtin; (with_reducible refine gate_dst (N := 47) rfl ?_); refine ev_append_ents rfl (.tmp 31) (.tmp 46) rfl w.heap.size u1 (knL j) [knE j] (some ⟨wr.heap.size + 1, 0, none⟩) 1 (by kernel_rfl) (by first | kernel_rfl | rfl) (by rw [knL_length]; exact (HO.out.alloc _).alloc _) HRO.out (by have := HW.out.size; simp; omega) (by rw [knL_length]; have := HJ.out; simp; omega) ?_; intro v1 w1 ho hg; rw [← knL_succ, knL_length] at ho; have HO1 := Aside0.mk ho; have HW1 := Aside0.mk ((below_alloc (below_alloc HW.out _) _).grown hg (by have := HW.out.size; simp; omega) (own_base HO.out)); clear ho hg)
      go_roundw
      case rel => exact ⟨j + 1, HJ.out, by go_num, HO1, HW1⟩
      case measure => simp [intOf]; have := HJ.out; omega
    · obtain rfl : j = 64 := by omega
      clear hlt hj
      obtain ⟨A, c, rfl⟩ := own_slice HO.out
      have ho0 := HO.out
      obtain ⟨L, hL⟩ : ∃ L, knL 64 = L := ⟨_, rfl⟩
      have hF := kn_facts
      rw [hL] at hF ho0
      clear hL HO
      have F := Aside0.mk hF
      have hlen0 := hF.len
      have HK := Aside0.mk (show 64 ≤ c from own_cap ho0)
      have HR := Aside0.mk (own_row (l := L) (by rw [hlen0]; exact ho0) (fun x hx => by have := hF.small x hx; omega))
      have hins := fun (x : Int) (s : ByteArray) (W : World) (hb : Below wr.heap.size wr W) (hs : s.size ≤ 1000) (y : Int) (h : insErr L ⟨x, s⟩ = some y) => ins_err A c L x s W (HR.out.below hb) (fun x hx => by have := hF.small x hx; omega) (by omega) (Utf8Tabs_below HT.out (HW.out.trans (hb.mono (below_size HW.out)))) (by omega) y h
      have hset := fun (s : ByteArray) (x : Int) (W : World) (hb : Below wr.heap.size wr W) (hs : s.size ≤ 1000) (y : Int) (h : setErr L s x = some y) => set_err A c L s x W (HR.out.below hb) (by omega) (fun x hx => by have := hF.small x hx; omega) (by omega) (Utf8Tabs_below HT.out (HW.out.trans (hb.mono (below_size HW.out)))) y h
      have hown := fun (W : World) (hb : Below wr.heap.size wr W) => own_any A c L W (HR.out.below hb) (by omega)
      have hput := fun (W : World) (hb : Below wr.heap.size wr W) => put_yes W A c L (HR.out.below hb) (Utf8Tabs_below HT.out (HW.out.trans (hb.mono (below_size HW.out)))) hF.may
      have hlen : (putL L).length = 1792 := by rw [putL_length L hF.small, hlen0]
      have hz := kn_z hF
      have hmore := hF.more
      rw [hlen0] at hins hset hown hput
      rw [hlen] at hput
      obtain ⟨PL, hPL⟩ : ∃ PL, putL L = PL := ⟨_, rfl⟩
      have h65 := kn_65 hF
      have hpr := putL_range ((mayE_iff _).1 hF.may)
      rw [hPL] at hput hlen h65 hpr
      obtain ⟨PB, hPB⟩ : ∃ PB, PL ++ PL.take 28 = PB := ⟨_, rfl⟩
      have hpbr : ∀ x ∈ PB, 0 ≤ x ∧ x < 256 := by
        intro x hx
        rw [← hPB] at hx
        rcases List.mem_append.1 hx with h | h
        · exact hpr x h
        · exact hpr x (List.mem_of_mem_take h)
      have hpbl : PB.length = 1820 := by rw [← hPB, List.length_append, List.length_take, hlen]; rfl
      rw [hPB] at h65
      obtain ⟨L5, hL5⟩ : ∃ L5, L ++ [(⟨1, ⟨#[122]⟩⟩ : S42)] = L5 := ⟨_, rfl⟩
      rw [hL5] at hz hmore
      have H5 := Aside0.mk (And.intro hL5 (show L5.length = 65 by rw [← hL5, List.length_append, hlen0]; rfl))
      have HM5 := Aside0.mk hmore
      have KZ := Aside0.mk hz
      have HPB := Aside0.mk (And.intro hPB hpbl)
      have HINS := Aside0.mk hins
      have HSET := Aside0.mk hset
      have HOWN := Aside0.mk hown
      have HPUT := Aside0.mk hput
      have HPLN := Aside0.mk hlen
      have HLEN := Aside0.mk hlen0
      have HTK := Aside0.mk (kn_tk PB hpbl h65 hpbr)
      have HTW := Aside0.mk (Utf8Tabs_below HT.out HW.out)
      have HFIN := Aside0.mk (show ∀ W, Below wr.heap.size wr W → Below w.heap.size w W from fun W h => HW.out.trans (h.mono (below_size HW.out)))
      clear hins hset hown hput hlen h65 hpr hPL HW hF hlen0 hz hmore hL5 hPB hpbr hpbl ho0
      go_wp2_with (first
    | (have hz := HB14.out; clear hz; go_at_call 17; refine (Calls.mono (wakes_true w14 (Utf8Tabs_below HTW.out HB14.out)) ?_); rintro e w15 ⟨rfl, hb⟩; have HB15 := Aside0.mk (below_step HB14.out hb); clear hb)
    | (have hz := HB13.out; clear hz; go_at_call 20; refine (Calls.mono (kn_ins2 w13 (Utf8Tabs_below HTW.out HB13.out)) ?_); rintro e w14 ⟨rfl, hb⟩; have HB14 := Aside0.mk (below_step HB13.out hb); clear hb)
    | (have hz := HB12b.out; clear hz; go_at_call 12; refine (Calls.mono (kn_take28 w12b gB BB.out (Utf8Tabs_below HTW.out HB12b.out)) ?_); rintro e w13 ⟨rfl, hb⟩; have HB13 := Aside0.mk (below_step HB12b.out hb); clear hb)
    | (have hz := HB12.out; clear hz; (with_reducible refine gate_dst (N := 109) rfl ?_); refine ev_make rfl (.const (.int .i64 28)) (.const (.int .i64 28)) 23 5 .u8 1 rfl Tryd.underlying23 infoU8 28 28 .i64 .i64 28 28 rfl rfl rfl rfl (by omega) (by omega) (by omega) ?_; intro gB hg w12b hbox hb; have HB12b := Aside0.mk (below_step HB12.out hb); have BB := Aside0.mk hbox; clear hb hbox hg)
    | (have hz := HB11.out; clear hz; go_at_call 12; refine (Calls.mono (kn_take0 w11 (Utf8Tabs_below HTW.out HB11.out)) ?_); rintro e w12 ⟨A12, c12, rfl, hb⟩; have HB12 := Aside0.mk (below_step HB11.out hb); clear hb)
    | (have hz := HB10.out; clear hz; go_at_call 20; refine (Calls.mono (kn_ins1 w10 (Utf8Tabs_below HTW.out HB10.out)) ?_); rintro e w11 ⟨rfl, hb⟩; have HB11 := Aside0.mk (below_step HB10.out hb); clear hb)
    | (have hz := HB9.out; clear hz; go_at_call 21; refine (Calls.mono (HSET.out ⟨#[120]⟩ 1 w9 HB9.out (by decide) 32 F.out.set1) ?_); rintro e w10 ⟨rfl, hb⟩; have HB10 := Aside0.mk (below_step HB9.out hb); clear hb)
    | (have hz := HB8.out; clear hz; go_at_call 21; refine (Calls.mono (HSET.out ⟨#[120]⟩ 0 w8 HB8.out (by decide) 1 F.out.set0) ?_); rintro e w9 ⟨rfl, hb⟩; have HB9 := Aside0.mk (below_step HB8.out hb); clear hb)
    | (have hz := HB7.out; clear hz; go_at_call 12; refine (Calls.mono (HTK.out w7 A7 c7 R7.out C7.out (Utf8Tabs_below HTW.out HB7.out)) ?_); rintro e w8 ⟨rfl, hb⟩; have HB8 := Aside0.mk (below_step HB7.out hb); clear hb)
    | (have hz := HB6.out; clear hz; at_builtin; (with_reducible refine gate_dst (N := 81) rfl ?_); refine print_append_row (w0 := w5) w5.heap.size rfl (.tmp 78) (.tmp 80) 23 5 .u8 1 rfl Tryd.underlying23 infoU8 (by omega) (.slice A6 1792 c6) PL (PL.take 28) A6 28 c6 (by kernel_rfl) (by kernel_rfl) (by rw [HPLN.out]; exact HO6.out) (R6.out.take_ 28 (by decide)) HX6.out HX6.out.size (by rw [HPLN.out]; decide) ?_; intro v7 w7 ho hb _ _; rw [HPB.out.1, HPB.out.2] at ho; obtain ⟨A7, c7, rfl, hq⟩ := own_reads ho; have C7 := Aside0.mk (own_cap ho); have HB7 := Aside0.mk (below_step HB5.out hb); have R7 := Aside0.mk hq; clear ho hb hq)
    | (have hz := HB5.out; clear hz; go_at_call 10; refine (Calls.mono (HPUT.out w5 HB5.out) ?_); rintro e w6 ⟨v6, rfl, ho, hb⟩; have HB6 := Aside0.mk (below_step HB5.out hb); have HX6 := Aside0.mk hb; obtain ⟨A6, c6, rfl, hq⟩ := own_reads ho; have R6 := Aside0.mk hq; have HO6 := Aside0.mk ho; have hc6 : (28 : Int) ≤ (c6 : Int) := (by have := own_cap ho; omega); clear hq ho; clear hb)
    | (have hz := HB4.out; clear hz; go_at_call 10; refine (Calls.mono ((H5.out.2 ▸ put_no w4 A4 c4 L5 R4.out (Utf8Tabs_below HTW.out HB4.out) HM5.out)) ?_); rintro e w5 ⟨rfl, hb⟩; have HB5 := Aside0.mk (below_step HB4.out hb); clear hb)
    | (have hz := HB3.out; clear hz; at_builtin; (with_reducible refine gate_dst (N := 65) rfl ?_); refine ev_append_ents rfl (.tmp 62) (.tmp 64) rfl w2.heap.size (.slice B3 64 c3) L [⟨1, ⟨#[122]⟩⟩] (some ⟨w3.heap.size, 0, none⟩) 1 (by kernel_rfl) (by kernel_rfl) (by rw [HLEN.out]; exact HO3.out.alloc _) (row_new w3 [⟨1, ⟨#[122]⟩⟩] (by decide) (by decide +kernel)) (by have := HX3.out.size; simp; omega) (by rw [HLEN.out]; decide) ?_; intro v4 w4 ho hg; rw [H5.out.1, H5.out.2] at ho; have HB4 := Aside0.mk (below_step HB2.out ((below_alloc HX3.out _).grown hg (by have := HX3.out.size; simp; omega) (own_base HO3.out))); obtain ⟨A4, c4, rfl⟩ := own_slice ho; have R4 := Aside0.mk (own_row (l := L5) (by rw [H5.out.2]; exact ho) KZ.out); clear ho hg)
    | (have hz := HB2.out; clear hz; go_at_call 9; refine (Calls.mono (HOWN.out w2 HB2.out) ?_); rintro e w3 ⟨B3, c3, rfl, ho, hb⟩; have HB3 := Aside0.mk (below_step HB2.out hb); have HO3 := Aside0.mk ho; have HX3 := Aside0.mk hb; clear ho; clear hb)
    | (have hz := HB1.out; clear hz; go_at_call 20; refine (Calls.mono (HINS.out 1 ⟨#[110, 48, 48]⟩ w1 HB1.out (by decide) 33 F.out.there) ?_); rintro e w2 ⟨rfl, hb⟩; have HB2 := Aside0.mk (below_step HB1.out hb); clear hb)
    | (go_at_call 20; refine (Calls.mono (HINS.out 1 ⟨#[122]⟩ wr (Below.refl _ _) (by decide) 40 F.out.full) ?_); rintro e w1 ⟨rfl, hb⟩; have HB1 := Aside0.mk hb; clear hb))
      go_ret
      exact ⟨rfl, HFIN.out _ HB15.out⟩
end Go.Proofs.YtneanbckmekdkaaDoor.EN
