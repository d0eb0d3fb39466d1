/- PointsFiles: the walk. -/
import Derived.Test.YtjpjjddkbohbpaaSame
import Derived.Test.YtjpjjddkbohbpaaInoEq
namespace Go.Proofs.YtjpjjddkbohbpaaX
open Go.RowKit Go.Proofs.YtjpjjddkbohbpaaW.PrintWords
set_option linter.unusedVariables false
theorem own_form {W : World} {base n : Nat} {e : TypeId} {k : IntKind} {v : Value} {xs : List Int} (h : W.ownsRow base e 1 v n (nums k xs)) :
    ∃ A c, v = .slice A n c ∧ ReadsInt W k A n xs ∧ n ≤ c ∧ c ≤ 9223372036854775807 ∧ (A = none → n = 0 ∧ c = 0) := by
  obtain ⟨A, c, rfl, hr⟩ := own_reads h
  have hc := own_le h
  refine ⟨A, c, rfl, hr, hc, ?_, ?_⟩
  · rcases h.2 with ⟨he, _⟩ | ⟨g, cap, cur, he, _, _, h1, h2, _⟩
    · cases he; omega
    · cases he; simpa [maxLen] using h2
  · rintro rfl
    rcases h.2 with ⟨he, h0⟩ | ⟨g, cap, cur, he, _⟩
    · cases he; exact ⟨rfl, rfl⟩
    · cases he
theorem own_apart {W W1 : World} {b n m s s' : Nat} {e e' : TypeId} {v v' : Value} {xs ys : List Value} (h : W.ownsRow b e s v n xs) (h' : W1.ownsRow W.heap.size e' s' v' m ys) : v.ownBlock = none ∨ v.ownBlock ≠ v'.ownBlock := by
  cases hv : v.ownBlock with
  | none => exact .inl rfl
  | some g =>
    refine .inr fun he => ?_
    have h1 := own_lt h g hv
    have h2 := own_base h' g he.symm
    omega
structure FK (w W : World) (vm vo : Value) (xs ys : List Int) : Prop where
  hb : Below w.heap.size w W
  m : W.ownsRow w.heap.size 38 1 vm xs.length (nums .u32 xs)
  o : W.ownsRow w.heap.size 38 1 vo ys.length (nums .u32 ys)
theorem FK.below {w W W1 : World} {vm vo : Value} {xs ys : List Int} (h : FK w W vm vo xs ys) (hb : Below W.heap.size W W1) : FK w W1 vm vo xs ys :=
  ⟨below_step h.hb hb, pw_own_below h.m hb, pw_own_below h.o hb⟩
theorem FK.box {w W W1 : World} {vm vo : Value} {xs ys : List Int} (h : FK w W vm vo xs ys) {g : Nat} {cs : Array Value} (hbox : W.heap[g]? = some (.cells cs 41 (0, 0))) (hg : W.grownBy W1 (some g)) (hw : w.heap.size ≤ g) : FK w W1 vm vo xs ys :=
  ⟨pw_below_grown h.hb _ h.hb.size hg (fun q e => by cases e; exact hw), own_other h.m hg (.inr (fun e => own_ne h.m hbox (by decide) e.symm)), own_other h.o hg (.inr (fun e => own_ne h.o hbox (by decide) e.symm))⟩
theorem FK.row {w W W1 : World} {vm vo vp : Value} {xs ys : List Int} (h : FK w W vm vo xs ys) (hp : ∀ g, vp.ownBlock = some g → w.heap.size ≤ g) (hg : W.grownBy W1 vp.ownBlock) (hm : vm.ownBlock = none ∨ vm.ownBlock ≠ vp.ownBlock) (ho : vo.ownBlock = none ∨ vo.ownBlock ≠ vp.ownBlock) : FK w W1 vm vo xs ys :=
  ⟨pw_below_grown h.hb _ h.hb.size hg hp, own_other h.m hg hm, own_other h.o hg ho⟩
theorem box_own {W W1 : World} {b n : Nat} {v : Value} {xs : List Value} (h : W.ownsRow b 38 1 v n xs) {g : Nat} {cs : Array Value} (hbox : W.heap[g]? = some (.cells cs 41 (0, 0))) (hg : W.grownBy W1 (some g)) : W1.ownsRow b 38 1 v n xs :=
  own_other h hg (.inr (fun e => own_ne h hbox (by decide) e.symm))
set_option maxHeartbeats 4000000 in
set_option maxRecDepth 100000 in
theorem files_walk (wk : ∀ W : World, Calls Try.prog 12 #[] W fun e w' => e = .returned (.bool true) ∧ Below W.heap.size W w')
    (a k s l d0 d1 d2 d3 d4 d5 p : Int) (A1 A2 : Option Addr) (c1 c2 : Nat) (xs ys : List Int) (w : World)
    (L M : List Int) (e1 e2 b0 b1 b2 b3 b4 b5 b6 b7 b8 b9 b10 : Int) (hL : L.length ≤ 9223372036854775806) (hM : M.length ≤ 9223372036854775806)
    (hal : ∀ (W : World) (A : Option Addr) (n c : Nat), ReadsInt W .u32 A n xs → n ≤ c → Calls Try.prog 14 #[.agg (inoCells a k s l d0 d1 d2 d3 d4 d5 p), .slice A n c] W fun e w' => ∃ v, e = .returned (.tuple #[v, .int .i64 e1]) ∧ w'.ownsRow W.heap.size 38 1 v L.length (nums .u32 L) ∧ Below W.heap.size W w')
    (hra : ∀ (W : World) (A : Option Addr) (n c : Nat), ReadsInt W .u32 A n xs → n ≤ c → Calls Try.prog 15 #[.agg (inoCells a k s l d0 d1 d2 d3 d4 d5 p), .slice A n c] W fun e w' => ∃ v, e = .returned (.tuple #[v, .int .i64 e1]) ∧ w'.ownsRow W.heap.size 38 1 v L.length (nums .u32 L) ∧ Below W.heap.size W w')
    (hsp : ∀ (W : World) (A : Option Addr) (n c : Nat), ReadsInt W .u32 A n ys → n ≤ c → c ≤ 9223372036854775807 → (A = none → n = 0 ∧ c = 0) → Calls Try.prog 17 #[.agg (inoCells a k s l d0 d1 d2 d3 d4 d5 p), .slice A n c] W fun e w' => ∃ v, e = .returned (.tuple #[.agg (inoCells b0 b1 b2 b3 b4 b5 b6 b7 b8 b9 b10), v, .int .i64 e2]) ∧ w'.ownsRow W.heap.size 38 1 v M.length (nums .u32 M) ∧ Below W.heap.size W w')
    (hrs : ∀ (W : World) (A : Option Addr) (n c : Nat), ReadsInt W .u32 A n ys → n ≤ c → Calls Try.prog 18 #[.agg (inoCells a k s l d0 d1 d2 d3 d4 d5 p), .slice A n c] W fun e w' => ∃ v, e = .returned (.tuple #[.agg (inoCells b0 b1 b2 b3 b4 b5 b6 b7 b8 b9 b10), v, .int .i64 e2]) ∧ w'.ownsRow W.heap.size 38 1 v M.length (nums .u32 M) ∧ Below W.heap.size W w')
    (hr1 : ReadsInt w .u32 A1 xs.length xs) (hr2 : ReadsInt w .u32 A2 ys.length ys) (h1 : xs.length * 4 ≤ 140737488355328) (h2 : ys.length * 4 ≤ 140737488355328) (hc1 : xs.length ≤ c1) (hc2 : ys.length ≤ c2) :
    Calls Try.prog 6 #[.agg (inoCells a k s l d0 d1 d2 d3 d4 d5 p), .slice A1 xs.length c1, .slice A2 ys.length c2] w fun e w' => e = .returned (.bool true) ∧ Below w.heap.size w w' := by
  have hu41 := Aside0.mk Try.underlying41
  have R1 := Aside0.mk hr1
  have R2 := Aside0.mk hr2
  have WK := Aside0.mk wk
  have AL := Aside0.mk hal
  have RA := Aside0.mk hra
  have SP := Aside0.mk hsp
  have RS := Aside0.mk hrs
  have HL := Aside0.mk hL
  have HM := Aside0.mk hM
  have H1 := Aside0.mk h1
  have H2 := Aside0.mk h2
  have HC1 := Aside0.mk hc1
  have HC2 := Aside0.mk hc2
  clear hr1 hr2 wk hal hra hsp hrs hL hM h1 h2 hc1 hc2
  have NIL : Aside0 (∀ W : World, W.ownsRow w.heap.size 38 1 (.slice none 0 0) ([] : List Int).length (nums .u32 [])) := ⟨fun W => own_nil _ _ _ _⟩
  have EQ := fun W : World => (ino_neq W b0 b1 b2 b3 b4 b5 b6 b7 b8 b9 b10 b0 b1 b2 b3 b4 b5 b6 b7 b8 b9 b10).trans (show _ = Result.ok (Value.bool false) W from by rw [inoB_self]; rfl)
  go_enter Try.func6, Try.ntmps6
  go_wp2_with (first | ((with_reducible refine gate_dst (N := 3) rfl ?_); refine box_event ?hg (N := 3) ?hd (cs := inoCells a k s l d0 d1 d2 d3 d4 d5 p) (t := 41) ?hr ?_; (case hd => rfl); (case hg => rfl); (case hr => first | (go_simp; done) | (go_simp; rfl)); intro gb hg w1 hbox hb; have HB1 := Aside0.mk (hb); have BK1 := Aside0.mk (hbox); clear hb hbox hg) | (at_builtin; with_reducible refine gate_dst (N := 20) rfl ?_; refine print_append_row (w0 := w) w.heap.size rfl (.const (.slice none 0 0)) (.tmp 19) 42 38 .u32 4 rfl Try.underlying42 infoU32 (by omega) (.slice none 0 0) [] xs A1 xs.length c1 rfl rfl (NIL.out _) (R1.out.below HB1.out) HB1.out HB1.out.size (by have := H1.out; simp; omega) ?_; intro v2 w2 ho hb hg _; rw [List.nil_append] at ho; have HO2 := Aside0.mk (ho); have HB2 := Aside0.mk (hb); have BK2 := Aside0.mk (blk_grown BK1.out hg (by simp [Value.ownBlock])); clear ho hb hg) | (at_builtin; with_reducible refine gate_dst (N := 22) rfl ?_; refine print_append_row (w0 := w) w.heap.size rfl (.const (.slice none 0 0)) (.tmp 21) 42 38 .u32 4 rfl Try.underlying42 infoU32 (by omega) (.slice none 0 0) [] ys A2 ys.length c2 (by kernel_rfl) (by kernel_rfl) (NIL.out w2) (R2.out.below HB2.out) HB2.out HB2.out.size (by have := H2.out; simp; omega) ?_; intro v3 w3 ho hb hg _; rw [List.nil_append] at ho; have hne : v2.ownBlock = none ∨ v2.ownBlock ≠ (Value.slice none 0 0).ownBlock := (by by_cases hv : v2.ownBlock = none; exact .inl hv; exact .inr (fun e => absurd (e.trans (show (Value.slice none 0 0).ownBlock = none from rfl)) hv)); have K3 := Aside0.mk (FK.mk hb (own_other HO2.out hg hne) ho); have BK3 := Aside0.mk (blk_grown BK2.out hg (by simp [Value.ownBlock])); clear hne ho hb hg; obtain ⟨A3, c3, rfl, _, hc3, _, _⟩ := own_form K3.out.m; have C3 := Aside0.mk (hc3); obtain ⟨A4, c4, rfl, _, hc4, hm4, hn4⟩ := own_form K3.out.o; have C4 := Aside0.mk (hc4); have M4 := Aside0.mk (hm4); have N4 := Aside0.mk (hn4); clear hc3 hc4 hm4 hn4) | ((with_reducible refine gate_dst (N := 24) rfl ?_); refine wpList_load_row rfl 41 (.tmp 3) (by kernel_rfl) gb (by kernel_rfl) _ _ _ _ BK3.out hu41.out rfl sizeInode ?_) | (go_at_call 14; refine (AL.out _ A3 _ c3 (own_reads' K3.out.m) C3.out).mono ?_; rintro e w4 ⟨v4, rfl, ho, hb⟩; have K4 := Aside0.mk (K3.out.below hb); have BK4 := Aside0.mk (blk_below BK3.out hb); have X4 := Aside0.mk (ho); have XM := Aside0.mk (own_apart K3.out.m ho); have XO := Aside0.mk (own_apart K3.out.o ho); have XB := Aside0.mk (fun g (e : v4.ownBlock = some g) => Nat.le_trans K3.out.hb.size (own_base ho g e)); clear ho hb) | ((with_reducible refine gate_dst (N := 30) rfl ?_); refine wpList_load_row rfl 41 (.tmp 3) (by kernel_rfl) gb (by kernel_rfl) _ _ _ _ BK4.out hu41.out rfl sizeInode ?_) | (go_at_call 15; refine (RA.out _ A1 _ c1 (R1.out.below K4.out.hb) HC1.out).mono ?_; rintro e w5 ⟨v5, rfl, ho, hb⟩; have K5 := Aside0.mk (K4.out.below hb); have BK5 := Aside0.mk (blk_below BK4.out hb); have X5 := Aside0.mk (pw_own_below X4.out hb); obtain ⟨A5, c5, rfl, _, hc5, _, _⟩ := own_form X5.out; obtain ⟨A6, c6, rfl, hr6, hc6, _, _⟩ := own_form ho; have C5 := Aside0.mk (hc5); have R6 := Aside0.mk (hr6); have C6 := Aside0.mk (hc6); clear ho hb hr6 hc5 hc6) | (have hz := Q12.out; clear hz; go_at_call 16; refine (same_any A7 A8 _ c7 c8 M _ (own_reads' P12.out) Q12.out C7.out C8.out HM.out).mono ?_; rintro e w13 ⟨rfl, hd⟩; have K13 := Aside0.mk (K12.out.below hd.below); have X13 := Aside0.mk (pw_own_below X12.out hd.below); have P13 := Aside0.mk (pw_own_below P12.out hd.below); clear hd) | (go_at_call 16; refine (same_any A5 A6 _ c5 c6 L _ (own_reads' X5.out) R6.out C5.out C6.out HL.out).mono ?_; rintro e w6 ⟨rfl, hd⟩; have K6 := Aside0.mk (K5.out.below hd.below); have BK6 := Aside0.mk (blk_below BK5.out hd.below); have X6 := Aside0.mk (pw_own_below X5.out hd.below); clear hd) | ((with_reducible refine gate_dst (N := 45) rfl ?_); refine wpList_load_row rfl 41 (.tmp 3) (by kernel_rfl) gb (by kernel_rfl) _ _ _ _ BK6.out hu41.out rfl sizeInode ?_) | (go_at_call 17; refine (SP.out _ A4 _ c4 (own_reads' K6.out.o) C4.out M4.out N4.out).mono ?_; rintro e w7 ⟨v7, rfl, ho, hb⟩; have K7 := Aside0.mk (K6.out.below hb); have BK7 := Aside0.mk (blk_below BK6.out hb); have X7 := Aside0.mk (pw_own_below X6.out hb); have P7 := Aside0.mk (ho); have PX := Aside0.mk (own_apart X6.out ho); have PM := Aside0.mk (own_apart K6.out.m ho); have PO := Aside0.mk (own_apart K6.out.o ho); have PB := Aside0.mk (fun g (e : v7.ownBlock = some g) => Nat.le_trans K6.out.hb.size (own_base ho g e)); obtain ⟨A7, c7, rfl, _, hc7, _, _⟩ := own_form ho; have C7 := Aside0.mk (hc7); clear ho hb hc7) | ((with_reducible refine gate_dst (N := 13) rfl ?_); refine box_event ?hg (N := 13) ?hd (cs := inoCells 0 0 0 0 0 0 0 0 0 0 0) (t := 41) ?hr ?_; (case hd => rfl); (case hg => rfl); (case hr => first | (go_simp; done) | (go_simp; rfl)); intro ga hg w8 hbox hb; have NE := Aside0.mk (show ga ≠ gb from fun e => by have h1 := blk_lt BK7.out; omega); have GA := Aside0.mk (show w.heap.size ≤ ga from by have := K7.out.hb.size; omega); have K8 := Aside0.mk (K7.out.below hb); have BK8 := Aside0.mk (blk_below BK7.out hb); have X8 := Aside0.mk (pw_own_below X7.out hb); have P8 := Aside0.mk (pw_own_below P7.out hb); have BA8 := Aside0.mk (hbox); clear hb hbox hg) | ((with_reducible refine gate_store (t := 41) (p := 13) (v := .tmp 48) rfl ?_); refine ev_store_row (by rfl) 41 (.tmp 13) (.tmp 48) (by rfl) ga (inoCells b0 b1 b2 b3 b4 b5 b6 b7 b8 b9 b10) (by kernel_rfl) (by kernel_rfl) 41 _ BA8.out sizeInode (by rfl) (ino_all _ _ _ _ _ _ _ _ _ _ _) ?_; intro w9 hbox hg; have K9 := Aside0.mk (K8.out.box BA8.out hg GA.out); have BK9 := Aside0.mk (blk_grown BK8.out hg (fun e => NE.out (Option.some.inj e).symm)); have X9 := Aside0.mk (box_own X8.out BA8.out hg); have P9 := Aside0.mk (box_own P8.out BA8.out hg); have BA9 := Aside0.mk (hbox); clear hbox hg) | ((with_reducible refine gate_dst (N := 52) rfl ?_); refine wpList_load_row rfl 41 (.tmp 3) (by kernel_rfl) gb (by kernel_rfl) _ _ _ _ BK9.out hu41.out rfl sizeInode ?_) | (go_at_call 18; refine (RS.out _ A2 _ c2 (R2.out.below K9.out.hb) HC2.out).mono ?_; rintro e w10 ⟨v10, rfl, ho, hb⟩; have K10 := Aside0.mk (K9.out.below hb); have X10 := Aside0.mk (pw_own_below X9.out hb); have P10 := Aside0.mk (pw_own_below P9.out hb); have BA10 := Aside0.mk (blk_below BA9.out hb); obtain ⟨A8, c8, rfl, _, hc8, _, _⟩ := own_form ho; have C8 := Aside0.mk (hc8); have Q10 := Aside0.mk (ho); clear ho hb hc8) | ((with_reducible refine gate_dst (N := 15) rfl ?_); refine box_event ?hg (N := 15) ?hd (cs := inoCells 0 0 0 0 0 0 0 0 0 0 0) (t := 41) ?hr ?_; (case hd => rfl); (case hg => rfl); (case hr => first | (go_simp; done) | (go_simp; rfl)); intro gc hg w11 hbox hb; have NC := Aside0.mk (show gc ≠ ga from fun e => by have h1 := blk_lt BA10.out; omega); have GC := Aside0.mk (show w.heap.size ≤ gc from by have := K10.out.hb.size; omega); have K11 := Aside0.mk (K10.out.below hb); have X11 := Aside0.mk (pw_own_below X10.out hb); have P11 := Aside0.mk (pw_own_below P10.out hb); have Q11 := Aside0.mk (pw_own_below Q10.out hb); have BA11 := Aside0.mk (blk_below BA10.out hb); have BC11 := Aside0.mk (hbox); clear hb hbox hg) | ((with_reducible refine gate_store (t := 41) (p := 15) (v := .tmp 55) rfl ?_); refine ev_store_row (by rfl) 41 (.tmp 15) (.tmp 55) (by rfl) gc (inoCells b0 b1 b2 b3 b4 b5 b6 b7 b8 b9 b10) (by kernel_rfl) (by kernel_rfl) 41 _ BC11.out sizeInode (by rfl) (ino_all _ _ _ _ _ _ _ _ _ _ _) ?_; intro w12 hbox hg; have K12 := Aside0.mk (K11.out.box BC11.out hg GC.out); have BA12 := Aside0.mk (blk_grown BA11.out hg (fun e => NC.out (Option.some.inj e).symm)); have X12 := Aside0.mk (box_own X11.out BC11.out hg); have P12 := Aside0.mk (box_own P11.out BC11.out hg); have Q12 := Aside0.mk (own_reads' (box_own Q11.out BC11.out hg)); have BC12 := Aside0.mk (hbox); clear hbox hg) | ((with_reducible refine gate_dst (N := 58) rfl ?_); refine wpList_load_row rfl 41 (.tmp 13) (by kernel_rfl) ga (by kernel_rfl) _ _ _ _ BA12.out hu41.out rfl sizeInode ?_) | ((with_reducible refine gate_dst (N := 59) rfl ?_); refine wpList_load_row rfl 41 (.tmp 15) (by kernel_rfl) gc (by kernel_rfl) _ _ _ _ BC12.out hu41.out rfl sizeInode ?_))
  clear K3 K4 K5 K6 K7 K8 K9 K10 K11 K12
  go_loopw [17] (fun i wr => ∃ j : Nat, j ≤ M.length ∧ i = .int .i64 j ∧ Aside0 (∃ M' : List Int, M'.length = M.length ∧ wr.ownsRow w6.heap.size 38 1 (.slice A7 M.length c7) M.length (nums .u32 M')) ∧ Aside0 (wr.ownsRow w3.heap.size 38 1 (.slice A5 L.length c5) L.length (nums .u32 L)) ∧ Aside0 (FK w wr (.slice A3 xs.length c3) (.slice A4 ys.length c4) xs ys)) (fun i _ => M.length - (intOf i).toNat)
  case atStart => exact ⟨0, Nat.zero_le _, rfl, ⟨M, rfl, P13.out⟩, X13, K13⟩
  case round =>
    obtain ⟨j, hj, rfl, P, X, K⟩ := hrel
    clear P13 X13 K13
    have hML := HM.out
    by_cases hlt : j < M.length
    · obtain ⟨M', hM', P'⟩ := P.out
      obtain ⟨g, cap, hv, _, _⟩ := P'.form (by omega)
      injection hv with h1 h2 h3
      subst h1 h3
      have hlt' : (j : Int) < (M.length : Int) := by omega
      have hj0 : (0 : Int) ≤ (j : Int) := Int.natCast_nonneg _
      obtain ⟨q0, q1⟩ := own_at P' j hj0 hlt'
      obtain ⟨x, hx⟩ : ∃ x, rd M' j = x := ⟨_, rfl⟩
      rw [hx] at q0
      rw [Int.toNat_natCast] at q0 q1
      have PP := Aside0.mk P'
      have HM' := Aside0.mk hM'
      clear hx P' hM'
      go_wp2
      go_roundw
      case rel =>
        have hs := fun y => own_store PP.out (j : Int) y
        simp only [Int.toNat_natCast] at hs
        exact ⟨j + 1, by omega, by go_num, ⟨_, by rw [List.length_set]; exact HM'.out, (hs _).1⟩, ⟨own_other X.out (hs _).2 PX.out⟩, ⟨K.out.row (vp := .slice (some ⟨g, 0, none⟩) M.length c7) PB.out (hs _).2 PM.out PO.out⟩⟩
      case measure => simp [intOf]; omega
    · have hjn : j = M.length := by omega
      subst hjn
      clear hlt hj
      have hLL := HL.out
      go_wp2
      go_loopw [18] (fun i wq => ∃ j : Nat, j ≤ L.length ∧ i = .int .i64 j ∧ Aside0 (∃ L' : List Int, L'.length = L.length ∧ wq.ownsRow w3.heap.size 38 1 (.slice A5 L.length c5) L.length (nums .u32 L')) ∧ Aside0 (FK w wq (.slice A3 xs.length c3) (.slice A4 ys.length c4) xs ys)) (fun i _ => L.length - (intOf i).toNat)
      case atStart => exact ⟨0, Nat.zero_le _, rfl, ⟨L, rfl, X.out⟩, K⟩
      case round =>
        obtain ⟨i, hi, rfl, Y, KK⟩ := hrel
        clear P X K
        by_cases hlt : i < L.length
        · obtain ⟨L', hL', Y'⟩ := Y.out
          obtain ⟨g, cap, hv, _, _⟩ := Y'.form (by omega)
          injection hv with h1 h2 h3
          subst h1 h3
          have hlt' : (i : Int) < (L.length : Int) := by omega
          have hi0 : (0 : Int) ≤ (i : Int) := Int.natCast_nonneg _
          obtain ⟨q0, q1⟩ := own_at Y' i hi0 hlt'
          obtain ⟨x, hx⟩ : ∃ x, rd L' i = x := ⟨_, rfl⟩
          rw [hx] at q0
          rw [Int.toNat_natCast] at q0 q1
          have PP := Aside0.mk Y'
          have HL' := Aside0.mk hL'
          clear hx Y' hL'
          go_wp2
          go_roundw
          case rel =>
            have hs := fun y => own_store PP.out (i : Int) y
            simp only [Int.toNat_natCast] at hs
            exact ⟨i + 1, by omega, by go_num, ⟨_, by rw [List.length_set]; exact HL'.out, (hs _).1⟩, ⟨KK.out.row (vp := .slice (some ⟨g, 0, none⟩) L.length c5) XB.out (hs _).2 XM.out XO.out⟩⟩
          case measure => simp [intOf]; omega
        · have hil : i = L.length := by omega
          subst hil
          clear hlt hi
          go_wp2_with (first | (have hz := KS.out; clear hz; go_at_call 16; refine (same_any A4 A2 _ c4 c2 ys _ (own_reads' KS.out.o) (R2.out.below KS.out.hb) C4.out HC2.out (by have := H2.out; omega)).mono ?_; rintro e wt ⟨rfl, hd⟩; have KT := Aside0.mk (KS.out.below hd.below); clear hd) | (go_at_call 16; refine (same_any A3 A1 _ c3 c1 xs _ (own_reads' KK.out.m) (R1.out.below KK.out.hb) C3.out HC1.out (by have := H1.out; omega)).mono ?_; rintro e ws ⟨rfl, hd⟩; have KS := Aside0.mk (KK.out.below hd.below); clear hd) | (go_at_call 12; refine (WK.out _).mono ?_; rintro e wz ⟨rfl, hb⟩; have KZ := Aside0.mk (KT.out.below hb); clear hb))
          go_ret
          exact ⟨rfl, KZ.out.hb⟩
end Go.Proofs.YtjpjjddkbohbpaaX
