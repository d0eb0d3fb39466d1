/- usage.look.inode: an inode's block stands at an address. -/
import Derived.Test.YtgiapegacbibeaaMU
namespace Go.Proofs.Ytgiapegacbibeaa.UM
open Go.RowKit Go.Proofs.YtgiapegacbibeaaX Go.Proofs.YtgiapegacbibeaaW.PrintWords
set_option linter.unusedVariables false
def IPost (gl gm gv n : Nat) (K N S : Int) (rv : Value) (w : World) : Int × List Int × List Int → Ending → World → Prop
  | (x, l', v'), e, w' => e = .returned (.int .i64 x) ∧ (x = 0 → LK w' gl gm gv n K N S rv l' v') ∧ Kp w w' (fun k => k = gm ∨ k = gv)
theorem filt_range {l : List Int} (h : ∀ x ∈ l, 0 ≤ x ∧ x < 4294967296) : ∀ x ∈ filt l, 0 ≤ x ∧ x < 4294967296 := fun x hx => h x (List.mem_filter.1 hx).1
theorem words_range {L : List Int} (h : ∀ j, 0 ≤ L.getD j 0 ∧ L.getD j 0 < 256) : ∀ x ∈ words L, 0 ≤ x ∧ x < 4294967296 := by
  intro x hx
  obtain ⟨c, _, rfl⟩ := List.mem_map.1 hx
  have h0 := h c.1
  have h1 := h (c.1 + 1)
  have h2 := h (c.1 + 2)
  have h3 := h (c.1 + 3)
  show 0 ≤ be4 _ _ _ _ ∧ be4 _ _ _ _ < 4294967296
  unfold be4
  omega
theorem getD_b {L : List Int} (h : ∀ x ∈ L, 0 ≤ x ∧ x < 256) (j : Nat) : 0 ≤ L.getD j 0 ∧ L.getD j 0 < 256 := by
  by_cases hl : j < L.length
  · rw [List.getD_eq_getElem?_getD, List.getElem?_eq_getElem hl]; exact h _ (List.getElem_mem _)
  · rw [List.getD_eq_getElem?_getD, List.getElem?_eq_none (by omega)]; decide
/-- What the walk holds. -/
structure IC (w : World) (gl gm gv n : Nat) (K N S : Int) (l v : List Int) (B : Nat) (SA : Option Addr) (cs : Nat) (bl : List (List Int)) (a : Int) : Prop where
  fL : LK w gl gm gv n K N S (.func (.func 14) #[.agg #[.slice SA bl.length cs]] #[]) l v
  fB : BS w B SA cs bl
  b1 : B ≤ gm
  b2 : B ≤ gv
  fK : 1 ≤ K ∧ K ≤ 255
  fS : 1 ≤ S ∧ S ≤ 128
  fn : (n : Int) = S
  fi : Inv n l v
  fa : 0 ≤ a ∧ a < 4294967296
  lb : bl.length ≤ 9223372036854775807
  fz : ∀ b ∈ bl, b.length ≤ 140737488355328
  fy : ∀ b ∈ bl, ∀ x ∈ b, 0 ≤ x ∧ x < 256
  ll : l.length ≤ 1000000
theorem IC.two {w : World} {gl gm gv n : Nat} {K N S : Int} {l v : List Int} {B : Nat} {SA : Option Addr} {cs : Nat} {bl : List (List Int)} {a : Int} (h : IC w gl gm gv n K N S l v B SA cs bl a) : ∀ k, k = gm ∨ k = gv → B ≤ k := fun k hk => hk.elim (fun e => e ▸ h.b1) (fun e => e ▸ h.b2)
set_option maxHeartbeats 4000000 in
set_option maxRecDepth 100000 in
theorem ino_1 (w : World) (gl gm gv n : Nat) (K N S : Int) (l v : List Int) (B : Nat) (SA : Option Addr) (cs : Nat) (bl : List (List Int)) (ino a : Int) (HC : Aside0 (IC w gl gm gv n K N S l v B SA cs bl a)) (HM : Aside0 (meetN K S a l v = none)) :
    Calls Try.prog 21 #[.pointer (some ⟨gl, 0, none⟩), .int .i64 ino, .int .u32 a] w fun e w' => e = .returned (.int .i64 5) ∧ Kp w w' (fun k => k = gm ∨ k = gv) := by
  have hu25 := Aside0.mk Try.underlying57
  go_enter Try.func21, Try.ntmps21
  go_wp2_with (first
    | (go_at_call 26; refine (meet_any w gl gm gv n K N S _ l v a HC.out.fL HC.out.fK HC.out.fS HC.out.fa HC.out.fn HC.out.fi (by have := HC.out.ll; omega)).mono ?_; rw [HM.out]; rintro e w1 ⟨rfl, hk⟩; have HK1 := Aside0.mk (hk); clear hk))
  go_ret
  exact ⟨rfl, HK1.out⟩
set_option maxHeartbeats 4000000 in
set_option maxRecDepth 100000 in
theorem ino_2 (w : World) (gl gm gv n : Nat) (K N S : Int) (l v : List Int) (B : Nat) (SA : Option Addr) (cs : Nat) (bl : List (List Int)) (ino a : Int) (HC : Aside0 (IC w gl gm gv n K N S l v B SA cs bl a)) (l1 v1 : List Int) (HM : Aside0 (meetN K S a l v = some (l1, v1))) (b : List Int) (x : Int) (HX : Aside0 (rdN bl a = (b, x))) (hx : (x != 0) = true) (hx' : x ≠ 0) :
    Calls Try.prog 21 #[.pointer (some ⟨gl, 0, none⟩), .int .i64 ino, .int .u32 a] w fun e w' => e = .returned (.int .i64 x) ∧ Kp w w' (fun k => k = gm ∨ k = gv) := by
  have hu25 := Aside0.mk Try.underlying57
  go_enter Try.func21, Try.ntmps21
  go_wp2_with (first
    | (go_at_call 26; refine (meet_any w gl gm gv n K N S _ l v a HC.out.fL HC.out.fK HC.out.fS HC.out.fa HC.out.fn HC.out.fi (by have := HC.out.ll; omega)).mono ?_; rw [HM.out]; rintro e w1 ⟨rfl, hl, hk⟩; have HK1 := Aside0.mk (hk); have HL1 := Aside0.mk (hl); have HS1 := Aside0.mk (HC.out.fB.kept hk HC.out.two); have c3 := hl.c3; clear hk hl)
    | (have hz := HL1.out; clear hz; go_at_call 14; refine (read_any w1 B SA cs bl a HS1.out HC.out.fa HC.out.lb HC.out.fz).mono ?_; rw [HX.out]; rintro e w2 ⟨A2, cA2, rfl, hr, hc, hd, hb⟩; have HK2 := Aside0.mk (HK1.out.below hb); have HL2 := Aside0.mk (HL1.out.below hb); have HS2 := Aside0.mk (HS1.out.below hb); have RA2 := Aside0.mk (hr); have CA2 := Aside0.mk (hc); have DA2 := Aside0.mk (hd); clear hr hc hd hb c3))
  go_ret
  exact ⟨rfl, HK2.out⟩
set_option maxHeartbeats 4000000 in
set_option maxRecDepth 100000 in
theorem ino_3 (w : World) (gl gm gv n : Nat) (K N S : Int) (l v : List Int) (B : Nat) (SA : Option Addr) (cs : Nat) (bl : List (List Int)) (ino a : Int) (HC : Aside0 (IC w gl gm gv n K N S l v B SA cs bl a)) (l1 v1 : List Int) (HM : Aside0 (meetN K S a l v = some (l1, v1))) (b : List Int) (HX : Aside0 (rdN bl a = (b, 0))) (HBY : Aside0 (∀ x ∈ b, 0 ≤ x ∧ x < 256)) (fa fk fs fl f0 f1 f2 f3 f4 f5 fp fe : Int) (HT : Aside0 (takeR b = (inoCells fa fk fs fl f0 f1 f2 f3 f4 f5 fp, fe))) (hx : (fe != 0) = true) (hx' : fe ≠ 0) :
    Calls Try.prog 21 #[.pointer (some ⟨gl, 0, none⟩), .int .i64 ino, .int .u32 a] w fun e w' => e = .returned (.int .i64 5) ∧ Kp w w' (fun k => k = gm ∨ k = gv) := by
  have hu25 := Aside0.mk Try.underlying57
  go_enter Try.func21, Try.ntmps21
  go_wp2_with (first
    | (go_at_call 26; refine (meet_any w gl gm gv n K N S _ l v a HC.out.fL HC.out.fK HC.out.fS HC.out.fa HC.out.fn HC.out.fi (by have := HC.out.ll; omega)).mono ?_; rw [HM.out]; rintro e w1 ⟨rfl, hl, hk⟩; have HK1 := Aside0.mk (hk); have HL1 := Aside0.mk (hl); have HS1 := Aside0.mk (HC.out.fB.kept hk HC.out.two); have c3 := hl.c3; clear hk hl)
    | (have hz := HL1.out; clear hz; go_at_call 14; refine (read_any w1 B SA cs bl a HS1.out HC.out.fa HC.out.lb HC.out.fz).mono ?_; rw [HX.out]; rintro e w2 ⟨A2, cA2, rfl, hr, hc, hd, hb⟩; have HK2 := Aside0.mk (HK1.out.below hb); have HL2 := Aside0.mk (HL1.out.below hb); have HS2 := Aside0.mk (HS1.out.below hb); have RA2 := Aside0.mk (hr); have CA2 := Aside0.mk (hc); have DA2 := Aside0.mk (hd); clear hr hc hd hb c3)
    | (go_at_call 27; refine (itake_any A2 b.length cA2 b _ CA2.out DA2.out RA2.out HBY.out).mono ?_; rw [HT.out]; rintro e w3 ⟨rfl, hb⟩; have HK3 := Aside0.mk (HK2.out.below hb); have HL3 := Aside0.mk (HL2.out.below hb); have HS3 := Aside0.mk (HS2.out.below hb); clear hb)
    | ((with_reducible refine gate_dst (N := 10) rfl ?_); refine box_event ?hg (N := 10) ?hd (cs := inoCells 0 0 0 0 0 0 0 0 0 0 0) (t := 57) ?hr ?_; (case hd => rfl); (case hg => rfl); (case hr => first | (go_simp; done) | (go_simp; rfl) | kernel_rfl); intro gi hg w4 hbox hb; have N1 := Aside0.mk (show gi ≠ gm ∧ gi ≠ gv ∧ gi ≠ gl ∧ B ≤ gi from by have h1 := HL3.out.lts; have h2 := HC.out.b1; exact ⟨by omega, by omega, by omega, by omega⟩); have G1 := Aside0.mk (show w3.heap.size ≤ gi from Nat.le_of_eq hg.symm); have HK4 := Aside0.mk (HK3.out.below hb); have HL4 := Aside0.mk (HL3.out.below hb); have HS4 := Aside0.mk (HS3.out.below hb); have Bi4 := Aside0.mk (hbox); have KB4 := Aside0.mk (Kp.of_below hb (fun k => k = gi)); clear hg hb hbox)
    | ((with_reducible refine gate_store (t := 57) (p := 10) (v := .tmp 34) rfl ?_); refine ev_store_row (by rfl) 57 (.tmp 10) (.tmp 34) (by rfl) gi (inoCells fa fk fs fl f0 f1 f2 f3 f4 f5 fp) (by kernel_rfl) (by kernel_rfl) 57 _ Bi4.out sizeInode (by rfl) (ino_all _ _ _ _ _ _ _ _ _ _ _) ?_; intro w5 hbox hg; have HK5 := Aside0.mk ((HK3.out.then_ (KB4.out.then_ (Kp.of_grown hg (Kp.refl _ (fun k => k = gi)) (fun k e => .inl (Option.some.inj e).symm)) (fun k hk => .inl hk)) (fun k hk => .inr (by rw [hk]; exact Nat.le_trans HK3.out.size G1.out)))); have HL5 := Aside0.mk (HL4.out.move (hg.block gl HL4.out.lts.1 (fun e => N1.out.2.2.1 (Option.some.inj e).symm)) (hg.block gm HL4.out.lts.2.1 (fun e => N1.out.1 (Option.some.inj e).symm)) (hg.block gv HL4.out.lts.2.2 (fun e => N1.out.2.1 (Option.some.inj e).symm))); have HS5 := Aside0.mk (HS4.out.kept (Kp.of_grown hg (Kp.refl _ (fun k => k = gi)) (fun k e => .inl (Option.some.inj e).symm)) (fun k hk => by rw [hk]; exact N1.out.2.2.2)); have Bi5 := Aside0.mk (hbox); have d0 : w5.cell? ⟨gi, 0, none⟩ = some (.int .i64 fa) := blk_cell hbox 0; clear hbox hg))
  go_ret
  exact ⟨rfl, HK5.out⟩
set_option maxHeartbeats 4000000 in
set_option maxRecDepth 100000 in
theorem ino_4 (w : World) (gl gm gv n : Nat) (K N S : Int) (l v : List Int) (B : Nat) (SA : Option Addr) (cs : Nat) (bl : List (List Int)) (ino a : Int) (HC : Aside0 (IC w gl gm gv n K N S l v B SA cs bl a)) (l1 v1 : List Int) (HM : Aside0 (meetN K S a l v = some (l1, v1))) (b : List Int) (HX : Aside0 (rdN bl a = (b, 0))) (HBY : Aside0 (∀ x ∈ b, 0 ≤ x ∧ x < 256)) (fa fk fs fl f0 f1 f2 f3 f4 f5 fp : Int) (HT : Aside0 (takeR b = (inoCells fa fk fs fl f0 f1 f2 f3 f4 f5 fp, 0))) (hx : (fa != ino) = true) (hx' : fa ≠ ino) :
    Calls Try.prog 21 #[.pointer (some ⟨gl, 0, none⟩), .int .i64 ino, .int .u32 a] w fun e w' => e = .returned (.int .i64 5) ∧ Kp w w' (fun k => k = gm ∨ k = gv) := by
  have hu25 := Aside0.mk Try.underlying57
  go_enter Try.func21, Try.ntmps21
  go_wp2_with (first
    | (go_at_call 26; refine (meet_any w gl gm gv n K N S _ l v a HC.out.fL HC.out.fK HC.out.fS HC.out.fa HC.out.fn HC.out.fi (by have := HC.out.ll; omega)).mono ?_; rw [HM.out]; rintro e w1 ⟨rfl, hl, hk⟩; have HK1 := Aside0.mk (hk); have HL1 := Aside0.mk (hl); have HS1 := Aside0.mk (HC.out.fB.kept hk HC.out.two); have c3 := hl.c3; clear hk hl)
    | (have hz := HL1.out; clear hz; go_at_call 14; refine (read_any w1 B SA cs bl a HS1.out HC.out.fa HC.out.lb HC.out.fz).mono ?_; rw [HX.out]; rintro e w2 ⟨A2, cA2, rfl, hr, hc, hd, hb⟩; have HK2 := Aside0.mk (HK1.out.below hb); have HL2 := Aside0.mk (HL1.out.below hb); have HS2 := Aside0.mk (HS1.out.below hb); have RA2 := Aside0.mk (hr); have CA2 := Aside0.mk (hc); have DA2 := Aside0.mk (hd); clear hr hc hd hb c3)
    | (go_at_call 27; refine (itake_any A2 b.length cA2 b _ CA2.out DA2.out RA2.out HBY.out).mono ?_; rw [HT.out]; rintro e w3 ⟨rfl, hb⟩; have HK3 := Aside0.mk (HK2.out.below hb); have HL3 := Aside0.mk (HL2.out.below hb); have HS3 := Aside0.mk (HS2.out.below hb); clear hb)
    | ((with_reducible refine gate_dst (N := 10) rfl ?_); refine box_event ?hg (N := 10) ?hd (cs := inoCells 0 0 0 0 0 0 0 0 0 0 0) (t := 57) ?hr ?_; (case hd => rfl); (case hg => rfl); (case hr => first | (go_simp; done) | (go_simp; rfl) | kernel_rfl); intro gi hg w4 hbox hb; have N1 := Aside0.mk (show gi ≠ gm ∧ gi ≠ gv ∧ gi ≠ gl ∧ B ≤ gi from by have h1 := HL3.out.lts; have h2 := HC.out.b1; exact ⟨by omega, by omega, by omega, by omega⟩); have G1 := Aside0.mk (show w3.heap.size ≤ gi from Nat.le_of_eq hg.symm); have HK4 := Aside0.mk (HK3.out.below hb); have HL4 := Aside0.mk (HL3.out.below hb); have HS4 := Aside0.mk (HS3.out.below hb); have Bi4 := Aside0.mk (hbox); have KB4 := Aside0.mk (Kp.of_below hb (fun k => k = gi)); clear hg hb hbox)
    | ((with_reducible refine gate_store (t := 57) (p := 10) (v := .tmp 34) rfl ?_); refine ev_store_row (by rfl) 57 (.tmp 10) (.tmp 34) (by rfl) gi (inoCells fa fk fs fl f0 f1 f2 f3 f4 f5 fp) (by kernel_rfl) (by kernel_rfl) 57 _ Bi4.out sizeInode (by rfl) (ino_all _ _ _ _ _ _ _ _ _ _ _) ?_; intro w5 hbox hg; have HK5 := Aside0.mk ((HK3.out.then_ (KB4.out.then_ (Kp.of_grown hg (Kp.refl _ (fun k => k = gi)) (fun k e => .inl (Option.some.inj e).symm)) (fun k hk => .inl hk)) (fun k hk => .inr (by rw [hk]; exact Nat.le_trans HK3.out.size G1.out)))); have HL5 := Aside0.mk (HL4.out.move (hg.block gl HL4.out.lts.1 (fun e => N1.out.2.2.1 (Option.some.inj e).symm)) (hg.block gm HL4.out.lts.2.1 (fun e => N1.out.1 (Option.some.inj e).symm)) (hg.block gv HL4.out.lts.2.2 (fun e => N1.out.2.1 (Option.some.inj e).symm))); have HS5 := Aside0.mk (HS4.out.kept (Kp.of_grown hg (Kp.refl _ (fun k => k = gi)) (fun k e => .inl (Option.some.inj e).symm)) (fun k hk => by rw [hk]; exact N1.out.2.2.2)); have Bi5 := Aside0.mk (hbox); have d0 : w5.cell? ⟨gi, 0, none⟩ = some (.int .i64 fa) := blk_cell hbox 0; clear hbox hg))
  go_ret
  exact ⟨rfl, HK5.out⟩
set_option maxHeartbeats 4000000 in
set_option maxRecDepth 100000 in
theorem ino_5 (w : World) (gl gm gv n : Nat) (K N S : Int) (l v : List Int) (B : Nat) (SA : Option Addr) (cs : Nat) (bl : List (List Int)) (ino a : Int) (HC : Aside0 (IC w gl gm gv n K N S l v B SA cs bl a)) (l1 v1 : List Int) (HM : Aside0 (meetN K S a l v = some (l1, v1))) (b : List Int) (HX : Aside0 (rdN bl a = (b, 0))) (HBY : Aside0 (∀ x ∈ b, 0 ≤ x ∧ x < 256)) (fa fk fs fl f0 f1 f2 f3 f4 f5 fp : Int) (HT : Aside0 (takeR b = (inoCells fa fk fs fl f0 f1 f2 f3 f4 f5 fp, 0))) (hx : (fa != ino) = false) (HA : Aside0 (allN K S (filt [f0, f1, f2, f3, f4, f5, fp]) l1 v1 = none)) (HDR : Aside0 (∀ x ∈ [f0, f1, f2, f3, f4, f5, fp], 0 ≤ x ∧ x < 4294967296)) :
    Calls Try.prog 21 #[.pointer (some ⟨gl, 0, none⟩), .int .i64 ino, .int .u32 a] w fun e w' => e = .returned (.int .i64 5) ∧ Kp w w' (fun k => k = gm ∨ k = gv) := by
  have hu25 := Aside0.mk Try.underlying57
  have HMI := Aside0.mk (show Inv n l1 v1 ∧ l1.length ≤ l.length + 1 from ⟨(meet_inv HC.out.fi HM.out).1, Nat.le_of_eq (meet_inv HC.out.fi HM.out).2⟩)
  have HFL := Aside0.mk (show (filt [f0, f1, f2, f3, f4, f5, fp]).length ≤ 7 from List.length_filter_le _ _)
  go_enter Try.func21, Try.ntmps21
  go_wp2_with (first
    | (go_at_call 26; refine (meet_any w gl gm gv n K N S _ l v a HC.out.fL HC.out.fK HC.out.fS HC.out.fa HC.out.fn HC.out.fi (by have := HC.out.ll; omega)).mono ?_; rw [HM.out]; rintro e w1 ⟨rfl, hl, hk⟩; have HK1 := Aside0.mk (hk); have HL1 := Aside0.mk (hl); have HS1 := Aside0.mk (HC.out.fB.kept hk HC.out.two); have c3 := hl.c3; clear hk hl)
    | (have hz := HL1.out; clear hz; go_at_call 14; refine (read_any w1 B SA cs bl a HS1.out HC.out.fa HC.out.lb HC.out.fz).mono ?_; rw [HX.out]; rintro e w2 ⟨A2, cA2, rfl, hr, hc, hd, hb⟩; have HK2 := Aside0.mk (HK1.out.below hb); have HL2 := Aside0.mk (HL1.out.below hb); have HS2 := Aside0.mk (HS1.out.below hb); have RA2 := Aside0.mk (hr); have CA2 := Aside0.mk (hc); have DA2 := Aside0.mk (hd); clear hr hc hd hb c3)
    | (go_at_call 27; refine (itake_any A2 b.length cA2 b _ CA2.out DA2.out RA2.out HBY.out).mono ?_; rw [HT.out]; rintro e w3 ⟨rfl, hb⟩; have HK3 := Aside0.mk (HK2.out.below hb); have HL3 := Aside0.mk (HL2.out.below hb); have HS3 := Aside0.mk (HS2.out.below hb); clear hb)
    | ((with_reducible refine gate_dst (N := 10) rfl ?_); refine box_event ?hg (N := 10) ?hd (cs := inoCells 0 0 0 0 0 0 0 0 0 0 0) (t := 57) ?hr ?_; (case hd => rfl); (case hg => rfl); (case hr => first | (go_simp; done) | (go_simp; rfl) | kernel_rfl); intro gi hg w4 hbox hb; have N1 := Aside0.mk (show gi ≠ gm ∧ gi ≠ gv ∧ gi ≠ gl ∧ B ≤ gi from by have h1 := HL3.out.lts; have h2 := HC.out.b1; exact ⟨by omega, by omega, by omega, by omega⟩); have G1 := Aside0.mk (show w3.heap.size ≤ gi from Nat.le_of_eq hg.symm); have HK4 := Aside0.mk (HK3.out.below hb); have HL4 := Aside0.mk (HL3.out.below hb); have HS4 := Aside0.mk (HS3.out.below hb); have Bi4 := Aside0.mk (hbox); have KB4 := Aside0.mk (Kp.of_below hb (fun k => k = gi)); clear hg hb hbox)
    | ((with_reducible refine gate_store (t := 57) (p := 10) (v := .tmp 34) rfl ?_); refine ev_store_row (by rfl) 57 (.tmp 10) (.tmp 34) (by rfl) gi (inoCells fa fk fs fl f0 f1 f2 f3 f4 f5 fp) (by kernel_rfl) (by kernel_rfl) 57 _ Bi4.out sizeInode (by rfl) (ino_all _ _ _ _ _ _ _ _ _ _ _) ?_; intro w5 hbox hg; have HK5 := Aside0.mk ((HK3.out.then_ (KB4.out.then_ (Kp.of_grown hg (Kp.refl _ (fun k => k = gi)) (fun k e => .inl (Option.some.inj e).symm)) (fun k hk => .inl hk)) (fun k hk => .inr (by rw [hk]; exact Nat.le_trans HK3.out.size G1.out)))); have HL5 := Aside0.mk (HL4.out.move (hg.block gl HL4.out.lts.1 (fun e => N1.out.2.2.1 (Option.some.inj e).symm)) (hg.block gm HL4.out.lts.2.1 (fun e => N1.out.1 (Option.some.inj e).symm)) (hg.block gv HL4.out.lts.2.2 (fun e => N1.out.2.1 (Option.some.inj e).symm))); have HS5 := Aside0.mk (HS4.out.kept (Kp.of_grown hg (Kp.refl _ (fun k => k = gi)) (fun k e => .inl (Option.some.inj e).symm)) (fun k hk => by rw [hk]; exact N1.out.2.2.2)); have Bi5 := Aside0.mk (hbox); have d0 : w5.cell? ⟨gi, 0, none⟩ = some (.int .i64 fa) := blk_cell hbox 0; clear hbox hg)
    | ((with_reducible refine gate_dst (N := 45) rfl ?_); refine wpList_load_row rfl 57 (.tmp 10) (by kernel_rfl) gi (by kernel_rfl) _ _ _ _ Bi5.out hu25.out rfl sizeInode ?_)
    | (go_at_call 29; refine (pointers_any fa fk fs fl f0 f1 f2 f3 f4 f5 fp _).mono ?_; rintro e w6 ⟨A6, c6, rfl, hr, hc, hb⟩; have HK6 := Aside0.mk (HK5.out.below hb); have HL6 := Aside0.mk (HL5.out.below hb); have HS6 := Aside0.mk (HS5.out.below hb); have Bi6 := Aside0.mk (blk_below Bi5.out hb); have R6 := Aside0.mk (hr); have R6a := Aside0.mk (And.intro hr (filt_range HDR.out)); clear hr hc hb d0)
    | (have hz := HL6.out; clear hz; go_at_call 28; refine (all_any w6 gl gm gv n K N S _ l1 v1 A6 _ c6 (filt [f0, f1, f2, f3, f4, f5, fp]) HL6.out HC.out.fK HC.out.fS HC.out.fn HMI.out.1 R6a.out.1 R6a.out.2 (by have h1 := HMI.out.2; have h2 := HC.out.ll; have h3 := R6a.out.1.1; have h4 := HFL.out; omega)).mono ?_; rw [HA.out]; rintro e w7 ⟨rfl, hk⟩; have HK7 := Aside0.mk (HK6.out.then_ hk (fun _ h => .inl h)); clear hk))
  go_ret
  exact ⟨rfl, HK7.out⟩
set_option maxHeartbeats 4000000 in
set_option maxRecDepth 100000 in
theorem ino_6 (w : World) (gl gm gv n : Nat) (K N S : Int) (l v : List Int) (B : Nat) (SA : Option Addr) (cs : Nat) (bl : List (List Int)) (ino a : Int) (HC : Aside0 (IC w gl gm gv n K N S l v B SA cs bl a)) (l1 v1 : List Int) (HM : Aside0 (meetN K S a l v = some (l1, v1))) (b : List Int) (HX : Aside0 (rdN bl a = (b, 0))) (HBY : Aside0 (∀ x ∈ b, 0 ≤ x ∧ x < 256)) (fa fk fs fl f0 f1 f2 f3 f4 f5 fp : Int) (HT : Aside0 (takeR b = (inoCells fa fk fs fl f0 f1 f2 f3 f4 f5 fp, 0))) (hx : (fa != ino) = false) (l2 v2 : List Int) (HA : Aside0 (allN K S (filt [f0, f1, f2, f3, f4, f5, fp]) l1 v1 = some (l2, v2))) (HDR : Aside0 (∀ x ∈ [f0, f1, f2, f3, f4, f5, fp], 0 ≤ x ∧ x < 4294967296)) (hp : (fp == 0) = true) :
    Calls Try.prog 21 #[.pointer (some ⟨gl, 0, none⟩), .int .i64 ino, .int .u32 a] w fun e w' => e = .returned (.int .i64 0) ∧ LK w' gl gm gv n K N S (.func (.func 14) #[.agg #[.slice SA bl.length cs]] #[]) l2 v2 ∧ Kp w w' (fun k => k = gm ∨ k = gv) := by
  have hu25 := Aside0.mk Try.underlying57
  have HMI := Aside0.mk (show Inv n l1 v1 ∧ l1.length ≤ l.length + 1 from ⟨(meet_inv HC.out.fi HM.out).1, Nat.le_of_eq (meet_inv HC.out.fi HM.out).2⟩)
  have HFL := Aside0.mk (show (filt [f0, f1, f2, f3, f4, f5, fp]).length ≤ 7 from List.length_filter_le _ _)
  go_enter Try.func21, Try.ntmps21
  go_wp2_with (first
    | (go_at_call 26; refine (meet_any w gl gm gv n K N S _ l v a HC.out.fL HC.out.fK HC.out.fS HC.out.fa HC.out.fn HC.out.fi (by have := HC.out.ll; omega)).mono ?_; rw [HM.out]; rintro e w1 ⟨rfl, hl, hk⟩; have HK1 := Aside0.mk (hk); have HL1 := Aside0.mk (hl); have HS1 := Aside0.mk (HC.out.fB.kept hk HC.out.two); have c3 := hl.c3; clear hk hl)
    | (have hz := HL1.out; clear hz; go_at_call 14; refine (read_any w1 B SA cs bl a HS1.out HC.out.fa HC.out.lb HC.out.fz).mono ?_; rw [HX.out]; rintro e w2 ⟨A2, cA2, rfl, hr, hc, hd, hb⟩; have HK2 := Aside0.mk (HK1.out.below hb); have HL2 := Aside0.mk (HL1.out.below hb); have HS2 := Aside0.mk (HS1.out.below hb); have RA2 := Aside0.mk (hr); have CA2 := Aside0.mk (hc); have DA2 := Aside0.mk (hd); clear hr hc hd hb c3)
    | (go_at_call 27; refine (itake_any A2 b.length cA2 b _ CA2.out DA2.out RA2.out HBY.out).mono ?_; rw [HT.out]; rintro e w3 ⟨rfl, hb⟩; have HK3 := Aside0.mk (HK2.out.below hb); have HL3 := Aside0.mk (HL2.out.below hb); have HS3 := Aside0.mk (HS2.out.below hb); clear hb)
    | ((with_reducible refine gate_dst (N := 10) rfl ?_); refine box_event ?hg (N := 10) ?hd (cs := inoCells 0 0 0 0 0 0 0 0 0 0 0) (t := 57) ?hr ?_; (case hd => rfl); (case hg => rfl); (case hr => first | (go_simp; done) | (go_simp; rfl) | kernel_rfl); intro gi hg w4 hbox hb; have N1 := Aside0.mk (show gi ≠ gm ∧ gi ≠ gv ∧ gi ≠ gl ∧ B ≤ gi from by have h1 := HL3.out.lts; have h2 := HC.out.b1; exact ⟨by omega, by omega, by omega, by omega⟩); have G1 := Aside0.mk (show w3.heap.size ≤ gi from Nat.le_of_eq hg.symm); have HK4 := Aside0.mk (HK3.out.below hb); have HL4 := Aside0.mk (HL3.out.below hb); have HS4 := Aside0.mk (HS3.out.below hb); have Bi4 := Aside0.mk (hbox); have KB4 := Aside0.mk (Kp.of_below hb (fun k => k = gi)); clear hg hb hbox)
    | ((with_reducible refine gate_store (t := 57) (p := 10) (v := .tmp 34) rfl ?_); refine ev_store_row (by rfl) 57 (.tmp 10) (.tmp 34) (by rfl) gi (inoCells fa fk fs fl f0 f1 f2 f3 f4 f5 fp) (by kernel_rfl) (by kernel_rfl) 57 _ Bi4.out sizeInode (by rfl) (ino_all _ _ _ _ _ _ _ _ _ _ _) ?_; intro w5 hbox hg; have HK5 := Aside0.mk ((HK3.out.then_ (KB4.out.then_ (Kp.of_grown hg (Kp.refl _ (fun k => k = gi)) (fun k e => .inl (Option.some.inj e).symm)) (fun k hk => .inl hk)) (fun k hk => .inr (by rw [hk]; exact Nat.le_trans HK3.out.size G1.out)))); have HL5 := Aside0.mk (HL4.out.move (hg.block gl HL4.out.lts.1 (fun e => N1.out.2.2.1 (Option.some.inj e).symm)) (hg.block gm HL4.out.lts.2.1 (fun e => N1.out.1 (Option.some.inj e).symm)) (hg.block gv HL4.out.lts.2.2 (fun e => N1.out.2.1 (Option.some.inj e).symm))); have HS5 := Aside0.mk (HS4.out.kept (Kp.of_grown hg (Kp.refl _ (fun k => k = gi)) (fun k e => .inl (Option.some.inj e).symm)) (fun k hk => by rw [hk]; exact N1.out.2.2.2)); have Bi5 := Aside0.mk (hbox); have d0 : w5.cell? ⟨gi, 0, none⟩ = some (.int .i64 fa) := blk_cell hbox 0; clear hbox hg)
    | ((with_reducible refine gate_dst (N := 45) rfl ?_); refine wpList_load_row rfl 57 (.tmp 10) (by kernel_rfl) gi (by kernel_rfl) _ _ _ _ Bi5.out hu25.out rfl sizeInode ?_)
    | (go_at_call 29; refine (pointers_any fa fk fs fl f0 f1 f2 f3 f4 f5 fp _).mono ?_; rintro e w6 ⟨A6, c6, rfl, hr, hc, hb⟩; have HK6 := Aside0.mk (HK5.out.below hb); have HL6 := Aside0.mk (HL5.out.below hb); have HS6 := Aside0.mk (HS5.out.below hb); have Bi6 := Aside0.mk (blk_below Bi5.out hb); have R6 := Aside0.mk (hr); have R6a := Aside0.mk (And.intro hr (filt_range HDR.out)); clear hr hc hb d0)
    | (have hz := HL6.out; clear hz; go_at_call 28; refine (all_any w6 gl gm gv n K N S _ l1 v1 A6 _ c6 (filt [f0, f1, f2, f3, f4, f5, fp]) HL6.out HC.out.fK HC.out.fS HC.out.fn HMI.out.1 R6a.out.1 R6a.out.2 (by have h1 := HMI.out.2; have h2 := HC.out.ll; have h3 := R6a.out.1.1; have h4 := HFL.out; omega)).mono ?_; rw [HA.out]; rintro e w7 ⟨rfl, hl, hk⟩; have HK7 := Aside0.mk (HK6.out.then_ hk (fun _ h => .inl h)); have HL7 := Aside0.mk (hl); have HS7 := Aside0.mk (HS6.out.kept hk HC.out.two); have Bi7 := Aside0.mk ((hk.block gi (blk_lt Bi6.out) (fun h => h.elim N1.out.1 N1.out.2.1)).trans Bi6.out); clear hl; clear hk; have d5 : w7.cell? ⟨gi, 10, none⟩ = some (.int .u32 fp) := blk_cell Bi7.out 10))
  go_ret
  exact ⟨rfl, HL7.out, HK7.out⟩
set_option maxHeartbeats 4000000 in
set_option maxRecDepth 100000 in
theorem ino_7 (w : World) (gl gm gv n : Nat) (K N S : Int) (l v : List Int) (B : Nat) (SA : Option Addr) (cs : Nat) (bl : List (List Int)) (ino a : Int) (HC : Aside0 (IC w gl gm gv n K N S l v B SA cs bl a)) (l1 v1 : List Int) (HM : Aside0 (meetN K S a l v = some (l1, v1))) (b : List Int) (HX : Aside0 (rdN bl a = (b, 0))) (HBY : Aside0 (∀ x ∈ b, 0 ≤ x ∧ x < 256)) (fa fk fs fl f0 f1 f2 f3 f4 f5 fp : Int) (HT : Aside0 (takeR b = (inoCells fa fk fs fl f0 f1 f2 f3 f4 f5 fp, 0))) (hx : (fa != ino) = false) (l2 v2 : List Int) (HA : Aside0 (allN K S (filt [f0, f1, f2, f3, f4, f5, fp]) l1 v1 = some (l2, v2))) (HDR : Aside0 (∀ x ∈ [f0, f1, f2, f3, f4, f5, fp], 0 ≤ x ∧ x < 4294967296)) (hp : (fp == 0) = false) (HFP : Aside0 (0 ≤ fp ∧ fp < 4294967296)) (b2 : List Int) (x2 : Int) (HX2 : Aside0 (rdN bl fp = (b2, x2))) (hx2 : (x2 != 0) = true) :
    Calls Try.prog 21 #[.pointer (some ⟨gl, 0, none⟩), .int .i64 ino, .int .u32 a] w fun e w' => e = .returned (.int .i64 x2) ∧ Kp w w' (fun k => k = gm ∨ k = gv) := by
  have hu25 := Aside0.mk Try.underlying57
  have HMI := Aside0.mk (show Inv n l1 v1 ∧ l1.length ≤ l.length + 1 from ⟨(meet_inv HC.out.fi HM.out).1, Nat.le_of_eq (meet_inv HC.out.fi HM.out).2⟩)
  have HFL := Aside0.mk (show (filt [f0, f1, f2, f3, f4, f5, fp]).length ≤ 7 from List.length_filter_le _ _)
  go_enter Try.func21, Try.ntmps21
  go_wp2_with (first
    | (go_at_call 26; refine (meet_any w gl gm gv n K N S _ l v a HC.out.fL HC.out.fK HC.out.fS HC.out.fa HC.out.fn HC.out.fi (by have := HC.out.ll; omega)).mono ?_; rw [HM.out]; rintro e w1 ⟨rfl, hl, hk⟩; have HK1 := Aside0.mk (hk); have HL1 := Aside0.mk (hl); have HS1 := Aside0.mk (HC.out.fB.kept hk HC.out.two); have c3 := hl.c3; clear hk hl)
    | (have hz := HL1.out; clear hz; go_at_call 14; refine (read_any w1 B SA cs bl a HS1.out HC.out.fa HC.out.lb HC.out.fz).mono ?_; rw [HX.out]; rintro e w2 ⟨A2, cA2, rfl, hr, hc, hd, hb⟩; have HK2 := Aside0.mk (HK1.out.below hb); have HL2 := Aside0.mk (HL1.out.below hb); have HS2 := Aside0.mk (HS1.out.below hb); have RA2 := Aside0.mk (hr); have CA2 := Aside0.mk (hc); have DA2 := Aside0.mk (hd); clear hr hc hd hb c3)
    | (go_at_call 27; refine (itake_any A2 b.length cA2 b _ CA2.out DA2.out RA2.out HBY.out).mono ?_; rw [HT.out]; rintro e w3 ⟨rfl, hb⟩; have HK3 := Aside0.mk (HK2.out.below hb); have HL3 := Aside0.mk (HL2.out.below hb); have HS3 := Aside0.mk (HS2.out.below hb); clear hb)
    | ((with_reducible refine gate_dst (N := 10) rfl ?_); refine box_event ?hg (N := 10) ?hd (cs := inoCells 0 0 0 0 0 0 0 0 0 0 0) (t := 57) ?hr ?_; (case hd => rfl); (case hg => rfl); (case hr => first | (go_simp; done) | (go_simp; rfl) | kernel_rfl); intro gi hg w4 hbox hb; have N1 := Aside0.mk (show gi ≠ gm ∧ gi ≠ gv ∧ gi ≠ gl ∧ B ≤ gi from by have h1 := HL3.out.lts; have h2 := HC.out.b1; exact ⟨by omega, by omega, by omega, by omega⟩); have G1 := Aside0.mk (show w3.heap.size ≤ gi from Nat.le_of_eq hg.symm); have HK4 := Aside0.mk (HK3.out.below hb); have HL4 := Aside0.mk (HL3.out.below hb); have HS4 := Aside0.mk (HS3.out.below hb); have Bi4 := Aside0.mk (hbox); have KB4 := Aside0.mk (Kp.of_below hb (fun k => k = gi)); clear hg hb hbox)
    | ((with_reducible refine gate_store (t := 57) (p := 10) (v := .tmp 34) rfl ?_); refine ev_store_row (by rfl) 57 (.tmp 10) (.tmp 34) (by rfl) gi (inoCells fa fk fs fl f0 f1 f2 f3 f4 f5 fp) (by kernel_rfl) (by kernel_rfl) 57 _ Bi4.out sizeInode (by rfl) (ino_all _ _ _ _ _ _ _ _ _ _ _) ?_; intro w5 hbox hg; have HK5 := Aside0.mk ((HK3.out.then_ (KB4.out.then_ (Kp.of_grown hg (Kp.refl _ (fun k => k = gi)) (fun k e => .inl (Option.some.inj e).symm)) (fun k hk => .inl hk)) (fun k hk => .inr (by rw [hk]; exact Nat.le_trans HK3.out.size G1.out)))); have HL5 := Aside0.mk (HL4.out.move (hg.block gl HL4.out.lts.1 (fun e => N1.out.2.2.1 (Option.some.inj e).symm)) (hg.block gm HL4.out.lts.2.1 (fun e => N1.out.1 (Option.some.inj e).symm)) (hg.block gv HL4.out.lts.2.2 (fun e => N1.out.2.1 (Option.some.inj e).symm))); have HS5 := Aside0.mk (HS4.out.kept (Kp.of_grown hg (Kp.refl _ (fun k => k = gi)) (fun k e => .inl (Option.some.inj e).symm)) (fun k hk => by rw [hk]; exact N1.out.2.2.2)); have Bi5 := Aside0.mk (hbox); have d0 : w5.cell? ⟨gi, 0, none⟩ = some (.int .i64 fa) := blk_cell hbox 0; clear hbox hg)
    | ((with_reducible refine gate_dst (N := 45) rfl ?_); refine wpList_load_row rfl 57 (.tmp 10) (by kernel_rfl) gi (by kernel_rfl) _ _ _ _ Bi5.out hu25.out rfl sizeInode ?_)
    | (go_at_call 29; refine (pointers_any fa fk fs fl f0 f1 f2 f3 f4 f5 fp _).mono ?_; rintro e w6 ⟨A6, c6, rfl, hr, hc, hb⟩; have HK6 := Aside0.mk (HK5.out.below hb); have HL6 := Aside0.mk (HL5.out.below hb); have HS6 := Aside0.mk (HS5.out.below hb); have Bi6 := Aside0.mk (blk_below Bi5.out hb); have R6 := Aside0.mk (hr); have R6a := Aside0.mk (And.intro hr (filt_range HDR.out)); clear hr hc hb d0)
    | (have hz := HL6.out; clear hz; go_at_call 28; refine (all_any w6 gl gm gv n K N S _ l1 v1 A6 _ c6 (filt [f0, f1, f2, f3, f4, f5, fp]) HL6.out HC.out.fK HC.out.fS HC.out.fn HMI.out.1 R6a.out.1 R6a.out.2 (by have h1 := HMI.out.2; have h2 := HC.out.ll; have h3 := R6a.out.1.1; have h4 := HFL.out; omega)).mono ?_; rw [HA.out]; rintro e w7 ⟨rfl, hl, hk⟩; have HK7 := Aside0.mk (HK6.out.then_ hk (fun _ h => .inl h)); have HL7 := Aside0.mk (hl); have HS7 := Aside0.mk (HS6.out.kept hk HC.out.two); have Bi7 := Aside0.mk ((hk.block gi (blk_lt Bi6.out) (fun h => h.elim N1.out.1 N1.out.2.1)).trans Bi6.out); clear hl; clear hk; have d5 : w7.cell? ⟨gi, 10, none⟩ = some (.int .u32 fp) := blk_cell Bi7.out 10))
  clear d5
  refine wp_region_held_drew (S := fun W => Below w7.heap.size w7 W) (by kernel_rfl) (below_drew (Below.refl w7.heap.size w7)) (fun hHeld => ?_)
  refine wpAnyH_take (i := 0) (oi := ⟨some 55, _, _, _, _, _⟩) (v := (.pointer (some ⟨gl, 0, none⟩))) rfl (by kernel_rfl) (by kernel_rfl) (by kernel_rfl) (fun _ _ _ h => h) (Or.inl ⟨by rfl, fun W hS => by go_simp⟩) hHeld ?_
  (try simp only [Act.put, List.setIfInBounds_toArray, List.set_cons_zero, List.set_cons_succ])
  refine wpAnyH_take (i := 1) (oi := ⟨some 56, _, _, _, _, _⟩) (v := (.pointer (some ⟨gl, 0, none⟩))) rfl (by kernel_rfl) (by kernel_rfl) (by kernel_rfl) (fun _ _ _ h => h) (Or.inl ⟨by rfl, fun W hS => by go_simp⟩) hHeld ?_
  (try simp only [Act.put, List.setIfInBounds_toArray, List.set_cons_zero, List.set_cons_succ])
  refine wpAnyH_take (i := 2) (oi := ⟨some 57, _, _, _, _, _⟩) (v := (.pointer (some ⟨gl, 3, none⟩))) rfl (by kernel_rfl) (by kernel_rfl) (by kernel_rfl) (fun _ _ _ h => h) (Or.inl ⟨by rfl, fun W hS => by go_simp⟩) hHeld ?_
  (try simp only [Act.put, List.setIfInBounds_toArray, List.set_cons_zero, List.set_cons_succ])
  refine wpAnyH_take (i := 3) (oi := ⟨some 58, _, _, _, _, _⟩) (v := (.func (.func 14) #[.agg #[.slice SA bl.length cs]] #[])) rfl (by kernel_rfl) (by kernel_rfl) (by kernel_rfl) (fun _ _ _ h => h) (Or.inl ⟨by rfl, fun W hS => by have c3 := (HL7.out.below hS).c3; go_simp⟩) hHeld ?_
  (try simp only [Act.put, List.setIfInBounds_toArray, List.set_cons_zero, List.set_cons_succ])
  refine wpAnyH_take (i := 4) (oi := ⟨some 59, _, _, _, _, _⟩) (v := (.pointer (some ⟨gi, 10, none⟩))) rfl (by kernel_rfl) (by kernel_rfl) (by kernel_rfl) (fun _ _ _ h => h) (Or.inl ⟨by rfl, fun W hS => by go_simp⟩) hHeld ?_
  (try simp only [Act.put, List.setIfInBounds_toArray, List.set_cons_zero, List.set_cons_succ])
  refine wpAnyH_take (i := 5) (oi := ⟨some 60, _, _, _, _, _⟩) (v := (.int .u32 fp)) rfl (by kernel_rfl) (by kernel_rfl) (by kernel_rfl) (fun _ _ _ h => h) (Or.inl ⟨by rfl, fun W hS => by have d5 : W.cell? ⟨gi, 10, none⟩ = some (.int .u32 fp) := blk_cell (blk_below Bi7.out hS) 10; go_simp⟩) hHeld ?_
  (try simp only [Act.put, List.setIfInBounds_toArray, List.set_cons_zero, List.set_cons_succ])
  refine wpAnyH_ready (rs := [6]) (by kernel_rfl) (by simp) ?_
  refine AllReadyH.cons rfl (fun K' hK' => ?_) AllReadyH.nil
  go_simp
  refine (read_any _ B SA cs bl fp (HS7.out.below hHeld) HFP.out HC.out.lb HC.out.fz).mono ?_
  rw [HX2.out]
  rintro e w8 ⟨A8, cA8, rfl, hr, hc, hd, hb⟩
  dsimp only
  refine hK'.out _ _ (below_step hHeld hb) (fun hH8 => ?_)
  have RA8 := Aside0.mk hr
  have CA8 := Aside0.mk hc
  have DA8 := Aside0.mk hd
  clear hK' K' hHeld hr hc hd hb
  have hHeld := hH8
  clear hH8
  (try simp only [Act.put, List.setIfInBounds_toArray, List.set_cons_zero, List.set_cons_succ])
  refine wpAnyH_take (i := 7) (oi := ⟨some 54, _, _, _, _, _⟩) (v := (.tuple #[.slice A8 b2.length cA8, .int .i64 x2])) rfl (by kernel_rfl) (by kernel_rfl) (by kernel_rfl) (fun _ _ _ h => h) (Or.inl ⟨by rfl, fun W hS => by go_simp⟩) hHeld ?_
  (try simp only [Act.put, List.setIfInBounds_toArray, List.set_cons_zero, List.set_cons_succ])
  refine wpAnyH_take (i := 8) (oi := ⟨some 62, _, _, _, _, _⟩) (v := (.slice A8 b2.length cA8)) rfl (by kernel_rfl) (by kernel_rfl) (by kernel_rfl) (fun _ _ _ h => h) (Or.inl ⟨by rfl, fun W hS => by go_simp⟩) hHeld ?_
  (try simp only [Act.put, List.setIfInBounds_toArray, List.set_cons_zero, List.set_cons_succ])
  refine wpAnyH_take (i := 9) (oi := ⟨some 63, _, _, _, _, _⟩) (v := (.int .i64 x2)) rfl (by kernel_rfl) (by kernel_rfl) (by kernel_rfl) (fun _ _ _ h => h) (Or.inl ⟨by rfl, fun W hS => by go_simp⟩) hHeld ?_
  (try simp only [Act.put, List.setIfInBounds_toArray, List.set_cons_zero, List.set_cons_succ])
  refine wpAnyH_take (i := 10) (oi := ⟨some 8, _, _, _, _, _⟩) (v := (.slice A8 b2.length cA8)) rfl (by kernel_rfl) (by kernel_rfl) (by kernel_rfl) (fun _ _ _ h => h) (Or.inl ⟨by rfl, fun W hS => by go_simp⟩) hHeld ?_
  (try simp only [Act.put, List.setIfInBounds_toArray, List.set_cons_zero, List.set_cons_succ])
  refine wpAnyH_take (i := 11) (oi := ⟨some 9, _, _, _, _, _⟩) (v := (.int .i64 x2)) rfl (by kernel_rfl) (by kernel_rfl) (by kernel_rfl) (fun _ _ _ h => h) (Or.inl ⟨by rfl, fun W hS => by go_simp⟩) hHeld ?_
  (try simp only [Act.put, List.setIfInBounds_toArray, List.set_cons_zero, List.set_cons_succ])
  refine wpAnyH_done (by kernel_rfl) ?_ _
  have HK8 := Aside0.mk (HK7.out.below hHeld)
  have HL8 := Aside0.mk (HL7.out.below hHeld)
  have HS8 := Aside0.mk (HS7.out.below hHeld)
  have Bi8 := Aside0.mk (blk_below Bi7.out hHeld)
  clear hHeld
  (try simp only [Exit.then])
  go_wp2
  go_ret
  exact ⟨rfl, HK8.out⟩
set_option maxHeartbeats 4000000 in
set_option maxRecDepth 100000 in
theorem ino_8 (w : World) (gl gm gv n : Nat) (K N S : Int) (l v : List Int) (B : Nat) (SA : Option Addr) (cs : Nat) (bl : List (List Int)) (ino a : Int) (HC : Aside0 (IC w gl gm gv n K N S l v B SA cs bl a)) (l1 v1 : List Int) (HM : Aside0 (meetN K S a l v = some (l1, v1))) (b : List Int) (HX : Aside0 (rdN bl a = (b, 0))) (HBY : Aside0 (∀ x ∈ b, 0 ≤ x ∧ x < 256)) (fa fk fs fl f0 f1 f2 f3 f4 f5 fp : Int) (HT : Aside0 (takeR b = (inoCells fa fk fs fl f0 f1 f2 f3 f4 f5 fp, 0))) (hx : (fa != ino) = false) (l2 v2 : List Int) (HA : Aside0 (allN K S (filt [f0, f1, f2, f3, f4, f5, fp]) l1 v1 = some (l2, v2))) (HDR : Aside0 (∀ x ∈ [f0, f1, f2, f3, f4, f5, fp], 0 ≤ x ∧ x < 4294967296)) (hp : (fp == 0) = false) (HFP : Aside0 (0 ≤ fp ∧ fp < 4294967296)) (b2 : List Int) (HX2 : Aside0 (rdN bl fp = (b2, 0))) (HNL : Aside0 (b2.length ≠ 112)) (HNB : Aside0 (b2.length ≤ 9223372036854775807)) :
    Calls Try.prog 21 #[.pointer (some ⟨gl, 0, none⟩), .int .i64 ino, .int .u32 a] w fun e w' => e = .returned (.int .i64 5) ∧ Kp w w' (fun k => k = gm ∨ k = gv) := by
  have hu25 := Aside0.mk Try.underlying57
  have HMI := Aside0.mk (show Inv n l1 v1 ∧ l1.length ≤ l.length + 1 from ⟨(meet_inv HC.out.fi HM.out).1, Nat.le_of_eq (meet_inv HC.out.fi HM.out).2⟩)
  have HFL := Aside0.mk (show (filt [f0, f1, f2, f3, f4, f5, fp]).length ≤ 7 from List.length_filter_le _ _)
  go_enter Try.func21, Try.ntmps21
  go_wp2_with (first
    | (go_at_call 26; refine (meet_any w gl gm gv n K N S _ l v a HC.out.fL HC.out.fK HC.out.fS HC.out.fa HC.out.fn HC.out.fi (by have := HC.out.ll; omega)).mono ?_; rw [HM.out]; rintro e w1 ⟨rfl, hl, hk⟩; have HK1 := Aside0.mk (hk); have HL1 := Aside0.mk (hl); have HS1 := Aside0.mk (HC.out.fB.kept hk HC.out.two); have c3 := hl.c3; clear hk hl)
    | (have hz := HL1.out; clear hz; go_at_call 14; refine (read_any w1 B SA cs bl a HS1.out HC.out.fa HC.out.lb HC.out.fz).mono ?_; rw [HX.out]; rintro e w2 ⟨A2, cA2, rfl, hr, hc, hd, hb⟩; have HK2 := Aside0.mk (HK1.out.below hb); have HL2 := Aside0.mk (HL1.out.below hb); have HS2 := Aside0.mk (HS1.out.below hb); have RA2 := Aside0.mk (hr); have CA2 := Aside0.mk (hc); have DA2 := Aside0.mk (hd); clear hr hc hd hb c3)
    | (go_at_call 27; refine (itake_any A2 b.length cA2 b _ CA2.out DA2.out RA2.out HBY.out).mono ?_; rw [HT.out]; rintro e w3 ⟨rfl, hb⟩; have HK3 := Aside0.mk (HK2.out.below hb); have HL3 := Aside0.mk (HL2.out.below hb); have HS3 := Aside0.mk (HS2.out.below hb); clear hb)
    | ((with_reducible refine gate_dst (N := 10) rfl ?_); refine box_event ?hg (N := 10) ?hd (cs := inoCells 0 0 0 0 0 0 0 0 0 0 0) (t := 57) ?hr ?_; (case hd => rfl); (case hg => rfl); (case hr => first | (go_simp; done) | (go_simp; rfl) | kernel_rfl); intro gi hg w4 hbox hb; have N1 := Aside0.mk (show gi ≠ gm ∧ gi ≠ gv ∧ gi ≠ gl ∧ B ≤ gi from by have h1 := HL3.out.lts; have h2 := HC.out.b1; exact ⟨by omega, by omega, by omega, by omega⟩); have G1 := Aside0.mk (show w3.heap.size ≤ gi from Nat.le_of_eq hg.symm); have HK4 := Aside0.mk (HK3.out.below hb); have HL4 := Aside0.mk (HL3.out.below hb); have HS4 := Aside0.mk (HS3.out.below hb); have Bi4 := Aside0.mk (hbox); have KB4 := Aside0.mk (Kp.of_below hb (fun k => k = gi)); clear hg hb hbox)
    | ((with_reducible refine gate_store (t := 57) (p := 10) (v := .tmp 34) rfl ?_); refine ev_store_row (by rfl) 57 (.tmp 10) (.tmp 34) (by rfl) gi (inoCells fa fk fs fl f0 f1 f2 f3 f4 f5 fp) (by kernel_rfl) (by kernel_rfl) 57 _ Bi4.out sizeInode (by rfl) (ino_all _ _ _ _ _ _ _ _ _ _ _) ?_; intro w5 hbox hg; have HK5 := Aside0.mk ((HK3.out.then_ (KB4.out.then_ (Kp.of_grown hg (Kp.refl _ (fun k => k = gi)) (fun k e => .inl (Option.some.inj e).symm)) (fun k hk => .inl hk)) (fun k hk => .inr (by rw [hk]; exact Nat.le_trans HK3.out.size G1.out)))); have HL5 := Aside0.mk (HL4.out.move (hg.block gl HL4.out.lts.1 (fun e => N1.out.2.2.1 (Option.some.inj e).symm)) (hg.block gm HL4.out.lts.2.1 (fun e => N1.out.1 (Option.some.inj e).symm)) (hg.block gv HL4.out.lts.2.2 (fun e => N1.out.2.1 (Option.some.inj e).symm))); have HS5 := Aside0.mk (HS4.out.kept (Kp.of_grown hg (Kp.refl _ (fun k => k = gi)) (fun k e => .inl (Option.some.inj e).symm)) (fun k hk => by rw [hk]; exact N1.out.2.2.2)); have Bi5 := Aside0.mk (hbox); have d0 : w5.cell? ⟨gi, 0, none⟩ = some (.int .i64 fa) := blk_cell hbox 0; clear hbox hg)
    | ((with_reducible refine gate_dst (N := 45) rfl ?_); refine wpList_load_row rfl 57 (.tmp 10) (by kernel_rfl) gi (by kernel_rfl) _ _ _ _ Bi5.out hu25.out rfl sizeInode ?_)
    | (go_at_call 29; refine (pointers_any fa fk fs fl f0 f1 f2 f3 f4 f5 fp _).mono ?_; rintro e w6 ⟨A6, c6, rfl, hr, hc, hb⟩; have HK6 := Aside0.mk (HK5.out.below hb); have HL6 := Aside0.mk (HL5.out.below hb); have HS6 := Aside0.mk (HS5.out.below hb); have Bi6 := Aside0.mk (blk_below Bi5.out hb); have R6 := Aside0.mk (hr); have R6a := Aside0.mk (And.intro hr (filt_range HDR.out)); clear hr hc hb d0)
    | (have hz := HL6.out; clear hz; go_at_call 28; refine (all_any w6 gl gm gv n K N S _ l1 v1 A6 _ c6 (filt [f0, f1, f2, f3, f4, f5, fp]) HL6.out HC.out.fK HC.out.fS HC.out.fn HMI.out.1 R6a.out.1 R6a.out.2 (by have h1 := HMI.out.2; have h2 := HC.out.ll; have h3 := R6a.out.1.1; have h4 := HFL.out; omega)).mono ?_; rw [HA.out]; rintro e w7 ⟨rfl, hl, hk⟩; have HK7 := Aside0.mk (HK6.out.then_ hk (fun _ h => .inl h)); have HL7 := Aside0.mk (hl); have HS7 := Aside0.mk (HS6.out.kept hk HC.out.two); have Bi7 := Aside0.mk ((hk.block gi (blk_lt Bi6.out) (fun h => h.elim N1.out.1 N1.out.2.1)).trans Bi6.out); clear hl; clear hk; have d5 : w7.cell? ⟨gi, 10, none⟩ = some (.int .u32 fp) := blk_cell Bi7.out 10))
  clear d5
  refine wp_region_held_drew (S := fun W => Below w7.heap.size w7 W) (by kernel_rfl) (below_drew (Below.refl w7.heap.size w7)) (fun hHeld => ?_)
  refine wpAnyH_take (i := 0) (oi := ⟨some 55, _, _, _, _, _⟩) (v := (.pointer (some ⟨gl, 0, none⟩))) rfl (by kernel_rfl) (by kernel_rfl) (by kernel_rfl) (fun _ _ _ h => h) (Or.inl ⟨by rfl, fun W hS => by go_simp⟩) hHeld ?_
  (try simp only [Act.put, List.setIfInBounds_toArray, List.set_cons_zero, List.set_cons_succ])
  refine wpAnyH_take (i := 1) (oi := ⟨some 56, _, _, _, _, _⟩) (v := (.pointer (some ⟨gl, 0, none⟩))) rfl (by kernel_rfl) (by kernel_rfl) (by kernel_rfl) (fun _ _ _ h => h) (Or.inl ⟨by rfl, fun W hS => by go_simp⟩) hHeld ?_
  (try simp only [Act.put, List.setIfInBounds_toArray, List.set_cons_zero, List.set_cons_succ])
  refine wpAnyH_take (i := 2) (oi := ⟨some 57, _, _, _, _, _⟩) (v := (.pointer (some ⟨gl, 3, none⟩))) rfl (by kernel_rfl) (by kernel_rfl) (by kernel_rfl) (fun _ _ _ h => h) (Or.inl ⟨by rfl, fun W hS => by go_simp⟩) hHeld ?_
  (try simp only [Act.put, List.setIfInBounds_toArray, List.set_cons_zero, List.set_cons_succ])
  refine wpAnyH_take (i := 3) (oi := ⟨some 58, _, _, _, _, _⟩) (v := (.func (.func 14) #[.agg #[.slice SA bl.length cs]] #[])) rfl (by kernel_rfl) (by kernel_rfl) (by kernel_rfl) (fun _ _ _ h => h) (Or.inl ⟨by rfl, fun W hS => by have c3 := (HL7.out.below hS).c3; go_simp⟩) hHeld ?_
  (try simp only [Act.put, List.setIfInBounds_toArray, List.set_cons_zero, List.set_cons_succ])
  refine wpAnyH_take (i := 4) (oi := ⟨some 59, _, _, _, _, _⟩) (v := (.pointer (some ⟨gi, 10, none⟩))) rfl (by kernel_rfl) (by kernel_rfl) (by kernel_rfl) (fun _ _ _ h => h) (Or.inl ⟨by rfl, fun W hS => by go_simp⟩) hHeld ?_
  (try simp only [Act.put, List.setIfInBounds_toArray, List.set_cons_zero, List.set_cons_succ])
  refine wpAnyH_take (i := 5) (oi := ⟨some 60, _, _, _, _, _⟩) (v := (.int .u32 fp)) rfl (by kernel_rfl) (by kernel_rfl) (by kernel_rfl) (fun _ _ _ h => h) (Or.inl ⟨by rfl, fun W hS => by have d5 : W.cell? ⟨gi, 10, none⟩ = some (.int .u32 fp) := blk_cell (blk_below Bi7.out hS) 10; go_simp⟩) hHeld ?_
  (try simp only [Act.put, List.setIfInBounds_toArray, List.set_cons_zero, List.set_cons_succ])
  refine wpAnyH_ready (rs := [6]) (by kernel_rfl) (by simp) ?_
  refine AllReadyH.cons rfl (fun K' hK' => ?_) AllReadyH.nil
  go_simp
  refine (read_any _ B SA cs bl fp (HS7.out.below hHeld) HFP.out HC.out.lb HC.out.fz).mono ?_
  rw [HX2.out]
  rintro e w8 ⟨A8, cA8, rfl, hr, hc, hd, hb⟩
  dsimp only
  refine hK'.out _ _ (below_step hHeld hb) (fun hH8 => ?_)
  have RA8 := Aside0.mk hr
  have CA8 := Aside0.mk hc
  have DA8 := Aside0.mk hd
  clear hK' K' hHeld hr hc hd hb
  have hHeld := hH8
  clear hH8
  (try simp only [Act.put, List.setIfInBounds_toArray, List.set_cons_zero, List.set_cons_succ])
  refine wpAnyH_take (i := 7) (oi := ⟨some 54, _, _, _, _, _⟩) (v := (.tuple #[.slice A8 b2.length cA8, .int .i64 0])) rfl (by kernel_rfl) (by kernel_rfl) (by kernel_rfl) (fun _ _ _ h => h) (Or.inl ⟨by rfl, fun W hS => by go_simp⟩) hHeld ?_
  (try simp only [Act.put, List.setIfInBounds_toArray, List.set_cons_zero, List.set_cons_succ])
  refine wpAnyH_take (i := 8) (oi := ⟨some 62, _, _, _, _, _⟩) (v := (.slice A8 b2.length cA8)) rfl (by kernel_rfl) (by kernel_rfl) (by kernel_rfl) (fun _ _ _ h => h) (Or.inl ⟨by rfl, fun W hS => by go_simp⟩) hHeld ?_
  (try simp only [Act.put, List.setIfInBounds_toArray, List.set_cons_zero, List.set_cons_succ])
  refine wpAnyH_take (i := 9) (oi := ⟨some 63, _, _, _, _, _⟩) (v := (.int .i64 0)) rfl (by kernel_rfl) (by kernel_rfl) (by kernel_rfl) (fun _ _ _ h => h) (Or.inl ⟨by rfl, fun W hS => by go_simp⟩) hHeld ?_
  (try simp only [Act.put, List.setIfInBounds_toArray, List.set_cons_zero, List.set_cons_succ])
  refine wpAnyH_take (i := 10) (oi := ⟨some 8, _, _, _, _, _⟩) (v := (.slice A8 b2.length cA8)) rfl (by kernel_rfl) (by kernel_rfl) (by kernel_rfl) (fun _ _ _ h => h) (Or.inl ⟨by rfl, fun W hS => by go_simp⟩) hHeld ?_
  (try simp only [Act.put, List.setIfInBounds_toArray, List.set_cons_zero, List.set_cons_succ])
  refine wpAnyH_take (i := 11) (oi := ⟨some 9, _, _, _, _, _⟩) (v := (.int .i64 0)) rfl (by kernel_rfl) (by kernel_rfl) (by kernel_rfl) (fun _ _ _ h => h) (Or.inl ⟨by rfl, fun W hS => by go_simp⟩) hHeld ?_
  (try simp only [Act.put, List.setIfInBounds_toArray, List.set_cons_zero, List.set_cons_succ])
  refine wpAnyH_done (by kernel_rfl) ?_ _
  have HK8 := Aside0.mk (HK7.out.below hHeld)
  have HL8 := Aside0.mk (HL7.out.below hHeld)
  have HS8 := Aside0.mk (HS7.out.below hHeld)
  have Bi8 := Aside0.mk (blk_below Bi7.out hHeld)
  clear hHeld
  (try simp only [Exit.then])
  go_wp2_with (first
    | (go_at_call 30; refine (take_no A8 b2.length cA8 _ HNL.out HNB.out).mono ?_; rintro e w9 ⟨x9, hx9, rfl, hb⟩; have hx9b : (x9 != 0) = true := bne_iff_ne.2 hx9; have HK9 := Aside0.mk (HK8.out.below hb); clear hb))
  go_ret
  exact ⟨rfl, HK9.out⟩
set_option maxHeartbeats 4000000 in
set_option maxRecDepth 100000 in
theorem ino_9 (w : World) (gl gm gv n : Nat) (K N S : Int) (l v : List Int) (B : Nat) (SA : Option Addr) (cs : Nat) (bl : List (List Int)) (ino a : Int) (HC : Aside0 (IC w gl gm gv n K N S l v B SA cs bl a)) (l1 v1 : List Int) (HM : Aside0 (meetN K S a l v = some (l1, v1))) (b : List Int) (HX : Aside0 (rdN bl a = (b, 0))) (HBY : Aside0 (∀ x ∈ b, 0 ≤ x ∧ x < 256)) (fa fk fs fl f0 f1 f2 f3 f4 f5 fp : Int) (HT : Aside0 (takeR b = (inoCells fa fk fs fl f0 f1 f2 f3 f4 f5 fp, 0))) (hx : (fa != ino) = false) (l2 v2 : List Int) (HA : Aside0 (allN K S (filt [f0, f1, f2, f3, f4, f5, fp]) l1 v1 = some (l2, v2))) (HDR : Aside0 (∀ x ∈ [f0, f1, f2, f3, f4, f5, fp], 0 ≤ x ∧ x < 4294967296)) (hp : (fp == 0) = false) (HFP : Aside0 (0 ≤ fp ∧ fp < 4294967296)) (b2 : List Int) (HX2 : Aside0 (rdN bl fp = (b2, 0))) (HNL : Aside0 (b2.length = 112)) (HBY2 : Aside0 (∀ x ∈ b2, 0 ≤ x ∧ x < 256)) (m : Nat) (hm : blk fs = (m : Int) + 6) (hm1 : 1 ≤ m) (hm2 : m ≤ 28) (hfs : fs ≤ 9223372036854775807) (HA2 : Aside0 (allN K S ((words b2).take m) l2 v2 = none)) :
    Calls Try.prog 21 #[.pointer (some ⟨gl, 0, none⟩), .int .i64 ino, .int .u32 a] w fun e w' => e = .returned (.int .i64 5) ∧ Kp w w' (fun k => k = gm ∨ k = gv) := by
  have hu25 := Aside0.mk Try.underlying57
  have HMI := Aside0.mk (show Inv n l1 v1 ∧ l1.length ≤ l.length + 1 from ⟨(meet_inv HC.out.fi HM.out).1, Nat.le_of_eq (meet_inv HC.out.fi HM.out).2⟩)
  have HFL := Aside0.mk (show (filt [f0, f1, f2, f3, f4, f5, fp]).length ≤ 7 from List.length_filter_le _ _)
  have HM2 := Aside0.mk hm2
  have HBK := Aside0.mk hm
  have HFS := Aside0.mk hfs
  have HAI := Aside0.mk (all_inv (filt [f0, f1, f2, f3, f4, f5, fp]) HMI.out.1 HA.out)
  have hmi : (m : Int) ≤ 28 := by omega
  have hmi0 : (0 : Int) ≤ (m : Int) := Int.natCast_nonneg _
  have HWL := Aside0.mk (show ((words b2).take m).length = m by rw [List.length_take, words_length]; omega)
  clear hm hfs
  have HAI2 := Aside0.mk (And.intro HAI.out.1 (show l2.length ≤ l.length + 8 from by have h1 := HAI.out.2; have h2 := HMI.out.2; have h3 := HFL.out; omega))
  go_enter Try.func21, Try.ntmps21
  go_wp2_with (first
    | (go_at_call 26; refine (meet_any w gl gm gv n K N S _ l v a HC.out.fL HC.out.fK HC.out.fS HC.out.fa HC.out.fn HC.out.fi (by have := HC.out.ll; omega)).mono ?_; rw [HM.out]; rintro e w1 ⟨rfl, hl, hk⟩; have HK1 := Aside0.mk (hk); have HL1 := Aside0.mk (hl); have HS1 := Aside0.mk (HC.out.fB.kept hk HC.out.two); have c3 := hl.c3; clear hk hl)
    | (have hz := HL1.out; clear hz; go_at_call 14; refine (read_any w1 B SA cs bl a HS1.out HC.out.fa HC.out.lb HC.out.fz).mono ?_; rw [HX.out]; rintro e w2 ⟨A2, cA2, rfl, hr, hc, hd, hb⟩; have HK2 := Aside0.mk (HK1.out.below hb); have HL2 := Aside0.mk (HL1.out.below hb); have HS2 := Aside0.mk (HS1.out.below hb); have RA2 := Aside0.mk (hr); have CA2 := Aside0.mk (hc); have DA2 := Aside0.mk (hd); clear hr hc hd hb c3)
    | (go_at_call 27; refine (itake_any A2 b.length cA2 b _ CA2.out DA2.out RA2.out HBY.out).mono ?_; rw [HT.out]; rintro e w3 ⟨rfl, hb⟩; have HK3 := Aside0.mk (HK2.out.below hb); have HL3 := Aside0.mk (HL2.out.below hb); have HS3 := Aside0.mk (HS2.out.below hb); clear hb)
    | ((with_reducible refine gate_dst (N := 10) rfl ?_); refine box_event ?hg (N := 10) ?hd (cs := inoCells 0 0 0 0 0 0 0 0 0 0 0) (t := 57) ?hr ?_; (case hd => rfl); (case hg => rfl); (case hr => first | (go_simp; done) | (go_simp; rfl) | kernel_rfl); intro gi hg w4 hbox hb; have N1 := Aside0.mk (show gi ≠ gm ∧ gi ≠ gv ∧ gi ≠ gl ∧ B ≤ gi from by have h1 := HL3.out.lts; have h2 := HC.out.b1; exact ⟨by omega, by omega, by omega, by omega⟩); have G1 := Aside0.mk (show w3.heap.size ≤ gi from Nat.le_of_eq hg.symm); have HK4 := Aside0.mk (HK3.out.below hb); have HL4 := Aside0.mk (HL3.out.below hb); have HS4 := Aside0.mk (HS3.out.below hb); have Bi4 := Aside0.mk (hbox); have KB4 := Aside0.mk (Kp.of_below hb (fun k => k = gi)); clear hg hb hbox)
    | ((with_reducible refine gate_store (t := 57) (p := 10) (v := .tmp 34) rfl ?_); refine ev_store_row (by rfl) 57 (.tmp 10) (.tmp 34) (by rfl) gi (inoCells fa fk fs fl f0 f1 f2 f3 f4 f5 fp) (by kernel_rfl) (by kernel_rfl) 57 _ Bi4.out sizeInode (by rfl) (ino_all _ _ _ _ _ _ _ _ _ _ _) ?_; intro w5 hbox hg; have HK5 := Aside0.mk ((HK3.out.then_ (KB4.out.then_ (Kp.of_grown hg (Kp.refl _ (fun k => k = gi)) (fun k e => .inl (Option.some.inj e).symm)) (fun k hk => .inl hk)) (fun k hk => .inr (by rw [hk]; exact Nat.le_trans HK3.out.size G1.out)))); have HL5 := Aside0.mk (HL4.out.move (hg.block gl HL4.out.lts.1 (fun e => N1.out.2.2.1 (Option.some.inj e).symm)) (hg.block gm HL4.out.lts.2.1 (fun e => N1.out.1 (Option.some.inj e).symm)) (hg.block gv HL4.out.lts.2.2 (fun e => N1.out.2.1 (Option.some.inj e).symm))); have HS5 := Aside0.mk (HS4.out.kept (Kp.of_grown hg (Kp.refl _ (fun k => k = gi)) (fun k e => .inl (Option.some.inj e).symm)) (fun k hk => by rw [hk]; exact N1.out.2.2.2)); have Bi5 := Aside0.mk (hbox); have d0 : w5.cell? ⟨gi, 0, none⟩ = some (.int .i64 fa) := blk_cell hbox 0; clear hbox hg)
    | ((with_reducible refine gate_dst (N := 45) rfl ?_); refine wpList_load_row rfl 57 (.tmp 10) (by kernel_rfl) gi (by kernel_rfl) _ _ _ _ Bi5.out hu25.out rfl sizeInode ?_)
    | (go_at_call 29; refine (pointers_any fa fk fs fl f0 f1 f2 f3 f4 f5 fp _).mono ?_; rintro e w6 ⟨A6, c6, rfl, hr, hc, hb⟩; have HK6 := Aside0.mk (HK5.out.below hb); have HL6 := Aside0.mk (HL5.out.below hb); have HS6 := Aside0.mk (HS5.out.below hb); have Bi6 := Aside0.mk (blk_below Bi5.out hb); have R6 := Aside0.mk (hr); have R6a := Aside0.mk (And.intro hr (filt_range HDR.out)); clear hr hc hb d0)
    | (have hz := HL6.out; clear hz; go_at_call 28; refine (all_any w6 gl gm gv n K N S _ l1 v1 A6 _ c6 (filt [f0, f1, f2, f3, f4, f5, fp]) HL6.out HC.out.fK HC.out.fS HC.out.fn HMI.out.1 R6a.out.1 R6a.out.2 (by have h1 := HMI.out.2; have h2 := HC.out.ll; have h3 := R6a.out.1.1; have h4 := HFL.out; omega)).mono ?_; rw [HA.out]; rintro e w7 ⟨rfl, hl, hk⟩; have HK7 := Aside0.mk (HK6.out.then_ hk (fun _ h => .inl h)); have HL7 := Aside0.mk (hl); have HS7 := Aside0.mk (HS6.out.kept hk HC.out.two); have Bi7 := Aside0.mk ((hk.block gi (blk_lt Bi6.out) (fun h => h.elim N1.out.1 N1.out.2.1)).trans Bi6.out); clear hl; clear hk; have d5 : w7.cell? ⟨gi, 10, none⟩ = some (.int .u32 fp) := blk_cell Bi7.out 10))
  clear d5
  refine wp_region_held_drew (S := fun W => Below w7.heap.size w7 W) (by kernel_rfl) (below_drew (Below.refl w7.heap.size w7)) (fun hHeld => ?_)
  refine wpAnyH_take (i := 0) (oi := ⟨some 55, _, _, _, _, _⟩) (v := (.pointer (some ⟨gl, 0, none⟩))) rfl (by kernel_rfl) (by kernel_rfl) (by kernel_rfl) (fun _ _ _ h => h) (Or.inl ⟨by rfl, fun W hS => by go_simp⟩) hHeld ?_
  (try simp only [Act.put, List.setIfInBounds_toArray, List.set_cons_zero, List.set_cons_succ])
  refine wpAnyH_take (i := 1) (oi := ⟨some 56, _, _, _, _, _⟩) (v := (.pointer (some ⟨gl, 0, none⟩))) rfl (by kernel_rfl) (by kernel_rfl) (by kernel_rfl) (fun _ _ _ h => h) (Or.inl ⟨by rfl, fun W hS => by go_simp⟩) hHeld ?_
  (try simp only [Act.put, List.setIfInBounds_toArray, List.set_cons_zero, List.set_cons_succ])
  refine wpAnyH_take (i := 2) (oi := ⟨some 57, _, _, _, _, _⟩) (v := (.pointer (some ⟨gl, 3, none⟩))) rfl (by kernel_rfl) (by kernel_rfl) (by kernel_rfl) (fun _ _ _ h => h) (Or.inl ⟨by rfl, fun W hS => by go_simp⟩) hHeld ?_
  (try simp only [Act.put, List.setIfInBounds_toArray, List.set_cons_zero, List.set_cons_succ])
  refine wpAnyH_take (i := 3) (oi := ⟨some 58, _, _, _, _, _⟩) (v := (.func (.func 14) #[.agg #[.slice SA bl.length cs]] #[])) rfl (by kernel_rfl) (by kernel_rfl) (by kernel_rfl) (fun _ _ _ h => h) (Or.inl ⟨by rfl, fun W hS => by have c3 := (HL7.out.below hS).c3; go_simp⟩) hHeld ?_
  (try simp only [Act.put, List.setIfInBounds_toArray, List.set_cons_zero, List.set_cons_succ])
  refine wpAnyH_take (i := 4) (oi := ⟨some 59, _, _, _, _, _⟩) (v := (.pointer (some ⟨gi, 10, none⟩))) rfl (by kernel_rfl) (by kernel_rfl) (by kernel_rfl) (fun _ _ _ h => h) (Or.inl ⟨by rfl, fun W hS => by go_simp⟩) hHeld ?_
  (try simp only [Act.put, List.setIfInBounds_toArray, List.set_cons_zero, List.set_cons_succ])
  refine wpAnyH_take (i := 5) (oi := ⟨some 60, _, _, _, _, _⟩) (v := (.int .u32 fp)) rfl (by kernel_rfl) (by kernel_rfl) (by kernel_rfl) (fun _ _ _ h => h) (Or.inl ⟨by rfl, fun W hS => by have d5 : W.cell? ⟨gi, 10, none⟩ = some (.int .u32 fp) := blk_cell (blk_below Bi7.out hS) 10; go_simp⟩) hHeld ?_
  (try simp only [Act.put, List.setIfInBounds_toArray, List.set_cons_zero, List.set_cons_succ])
  refine wpAnyH_ready (rs := [6]) (by kernel_rfl) (by simp) ?_
  refine AllReadyH.cons rfl (fun K' hK' => ?_) AllReadyH.nil
  go_simp
  refine (read_any _ B SA cs bl fp (HS7.out.below hHeld) HFP.out HC.out.lb HC.out.fz).mono ?_
  rw [HX2.out]
  rintro e w8 ⟨A8, cA8, rfl, hr, hc, hd, hb⟩
  dsimp only
  refine hK'.out _ _ (below_step hHeld hb) (fun hH8 => ?_)
  have RA8 := Aside0.mk hr
  have CA8 := Aside0.mk hc
  have DA8 := Aside0.mk hd
  clear hK' K' hHeld hr hc hd hb
  have hHeld := hH8
  clear hH8
  (try simp only [Act.put, List.setIfInBounds_toArray, List.set_cons_zero, List.set_cons_succ])
  refine wpAnyH_take (i := 7) (oi := ⟨some 54, _, _, _, _, _⟩) (v := (.tuple #[.slice A8 b2.length cA8, .int .i64 0])) rfl (by kernel_rfl) (by kernel_rfl) (by kernel_rfl) (fun _ _ _ h => h) (Or.inl ⟨by rfl, fun W hS => by go_simp⟩) hHeld ?_
  (try simp only [Act.put, List.setIfInBounds_toArray, List.set_cons_zero, List.set_cons_succ])
  refine wpAnyH_take (i := 8) (oi := ⟨some 62, _, _, _, _, _⟩) (v := (.slice A8 b2.length cA8)) rfl (by kernel_rfl) (by kernel_rfl) (by kernel_rfl) (fun _ _ _ h => h) (Or.inl ⟨by rfl, fun W hS => by go_simp⟩) hHeld ?_
  (try simp only [Act.put, List.setIfInBounds_toArray, List.set_cons_zero, List.set_cons_succ])
  refine wpAnyH_take (i := 9) (oi := ⟨some 63, _, _, _, _, _⟩) (v := (.int .i64 0)) rfl (by kernel_rfl) (by kernel_rfl) (by kernel_rfl) (fun _ _ _ h => h) (Or.inl ⟨by rfl, fun W hS => by go_simp⟩) hHeld ?_
  (try simp only [Act.put, List.setIfInBounds_toArray, List.set_cons_zero, List.set_cons_succ])
  refine wpAnyH_take (i := 10) (oi := ⟨some 8, _, _, _, _, _⟩) (v := (.slice A8 b2.length cA8)) rfl (by kernel_rfl) (by kernel_rfl) (by kernel_rfl) (fun _ _ _ h => h) (Or.inl ⟨by rfl, fun W hS => by go_simp⟩) hHeld ?_
  (try simp only [Act.put, List.setIfInBounds_toArray, List.set_cons_zero, List.set_cons_succ])
  refine wpAnyH_take (i := 11) (oi := ⟨some 9, _, _, _, _, _⟩) (v := (.int .i64 0)) rfl (by kernel_rfl) (by kernel_rfl) (by kernel_rfl) (fun _ _ _ h => h) (Or.inl ⟨by rfl, fun W hS => by go_simp⟩) hHeld ?_
  (try simp only [Act.put, List.setIfInBounds_toArray, List.set_cons_zero, List.set_cons_succ])
  refine wpAnyH_done (by kernel_rfl) ?_ _
  have HK8 := Aside0.mk (HK7.out.below hHeld)
  have HL8 := Aside0.mk (HL7.out.below hHeld)
  have HS8 := Aside0.mk (HS7.out.below hHeld)
  have Bi8 := Aside0.mk (blk_below Bi7.out hHeld)
  clear hHeld
  (try simp only [Exit.then])
  obtain ⟨ad8, rfl, _⟩ := RA8.out.2.2 (by rw [HNL.out]; decide)
  rw [HNL.out] at RA8 CA8 ⊢
  go_wp2_with (first
    | (go_at_call 30; refine (take_yes ad8 cA8 b2 _ CA8.out DA8.out RA8.out HBY2.out).mono ?_; rintro e w9 ⟨v9, rfl, ho, hb⟩; have HK9 := Aside0.mk (HK8.out.below hb); have HL9 := Aside0.mk (HL8.out.below hb); have HS9 := Aside0.mk (HS8.out.below hb); have Bi9 := Aside0.mk (blk_below Bi8.out hb); obtain ⟨A9, c9, rfl, hr9⟩ := own_reads ho; have R9 := Aside0.mk (show ReadsInt w9 .u32 A9 m ((words b2).take m) ∧ ∀ x ∈ (words b2).take m, 0 ≤ x ∧ x < 4294967296 from ⟨reads_prefix hr9 HM2.out, fun x hx => words_range (getD_b HBY2.out) x (List.mem_of_mem_take hx)⟩); have hc9 := own_le ho; have hc9' : m ≤ c9 := (by omega); have hc9i : (m : Int) ≤ (c9 : Int) := (by omega); have d2 : w9.cell? ⟨gi, 2, none⟩ = some (.int .i64 fs) := blk_cell Bi9.out 2; clear ho hb hr9)
    | (go_at_call 31; refine (blocks_any fs _ HFS.out).mono ?_; rw [HBK.out]; rintro e w' ⟨rfl, rfl⟩)
    | (have hz := HL9.out; clear hz; go_at_call 28; refine (all_any w9 gl gm gv n K N S _ l2 v2 A9 _ c9 ((words b2).take m) HL9.out HC.out.fK HC.out.fS HC.out.fn HAI2.out.1 R9.out.1 R9.out.2 (by have h1 := HAI2.out.2; have h2 := HC.out.ll; have h3 := R9.out.1.1; have h4 := HWL.out; omega)).mono ?_; rw [HA2.out]; rintro e w10 ⟨rfl, hk⟩; have HK10 := Aside0.mk (HK9.out.then_ hk (fun _ h => .inl h)); clear hk))
  go_ret
  exact ⟨rfl, HK10.out⟩
set_option maxHeartbeats 4000000 in
set_option maxRecDepth 100000 in
theorem ino_10 (w : World) (gl gm gv n : Nat) (K N S : Int) (l v : List Int) (B : Nat) (SA : Option Addr) (cs : Nat) (bl : List (List Int)) (ino a : Int) (HC : Aside0 (IC w gl gm gv n K N S l v B SA cs bl a)) (l1 v1 : List Int) (HM : Aside0 (meetN K S a l v = some (l1, v1))) (b : List Int) (HX : Aside0 (rdN bl a = (b, 0))) (HBY : Aside0 (∀ x ∈ b, 0 ≤ x ∧ x < 256)) (fa fk fs fl f0 f1 f2 f3 f4 f5 fp : Int) (HT : Aside0 (takeR b = (inoCells fa fk fs fl f0 f1 f2 f3 f4 f5 fp, 0))) (hx : (fa != ino) = false) (l2 v2 : List Int) (HA : Aside0 (allN K S (filt [f0, f1, f2, f3, f4, f5, fp]) l1 v1 = some (l2, v2))) (HDR : Aside0 (∀ x ∈ [f0, f1, f2, f3, f4, f5, fp], 0 ≤ x ∧ x < 4294967296)) (hp : (fp == 0) = false) (HFP : Aside0 (0 ≤ fp ∧ fp < 4294967296)) (b2 : List Int) (HX2 : Aside0 (rdN bl fp = (b2, 0))) (HNL : Aside0 (b2.length = 112)) (HBY2 : Aside0 (∀ x ∈ b2, 0 ≤ x ∧ x < 256)) (m : Nat) (hm : blk fs = (m : Int) + 6) (hm1 : 1 ≤ m) (hm2 : m ≤ 28) (hfs : fs ≤ 9223372036854775807) (l3 v3 : List Int) (HA2 : Aside0 (allN K S ((words b2).take m) l2 v2 = some (l3, v3))) :
    Calls Try.prog 21 #[.pointer (some ⟨gl, 0, none⟩), .int .i64 ino, .int .u32 a] w fun e w' => e = .returned (.int .i64 0) ∧ LK w' gl gm gv n K N S (.func (.func 14) #[.agg #[.slice SA bl.length cs]] #[]) l3 v3 ∧ Kp w w' (fun k => k = gm ∨ k = gv) := by
  have hu25 := Aside0.mk Try.underlying57
  have HMI := Aside0.mk (show Inv n l1 v1 ∧ l1.length ≤ l.length + 1 from ⟨(meet_inv HC.out.fi HM.out).1, Nat.le_of_eq (meet_inv HC.out.fi HM.out).2⟩)
  have HFL := Aside0.mk (show (filt [f0, f1, f2, f3, f4, f5, fp]).length ≤ 7 from List.length_filter_le _ _)
  have HM2 := Aside0.mk hm2
  have HBK := Aside0.mk hm
  have HFS := Aside0.mk hfs
  have HAI := Aside0.mk (all_inv (filt [f0, f1, f2, f3, f4, f5, fp]) HMI.out.1 HA.out)
  have hmi : (m : Int) ≤ 28 := by omega
  have hmi0 : (0 : Int) ≤ (m : Int) := Int.natCast_nonneg _
  have HWL := Aside0.mk (show ((words b2).take m).length = m by rw [List.length_take, words_length]; omega)
  clear hm hfs
  have HAI2 := Aside0.mk (And.intro HAI.out.1 (show l2.length ≤ l.length + 8 from by have h1 := HAI.out.2; have h2 := HMI.out.2; have h3 := HFL.out; omega))
  go_enter Try.func21, Try.ntmps21
  go_wp2_with (first
    | (go_at_call 26; refine (meet_any w gl gm gv n K N S _ l v a HC.out.fL HC.out.fK HC.out.fS HC.out.fa HC.out.fn HC.out.fi (by have := HC.out.ll; omega)).mono ?_; rw [HM.out]; rintro e w1 ⟨rfl, hl, hk⟩; have HK1 := Aside0.mk (hk); have HL1 := Aside0.mk (hl); have HS1 := Aside0.mk (HC.out.fB.kept hk HC.out.two); have c3 := hl.c3; clear hk hl)
    | (have hz := HL1.out; clear hz; go_at_call 14; refine (read_any w1 B SA cs bl a HS1.out HC.out.fa HC.out.lb HC.out.fz).mono ?_; rw [HX.out]; rintro e w2 ⟨A2, cA2, rfl, hr, hc, hd, hb⟩; have HK2 := Aside0.mk (HK1.out.below hb); have HL2 := Aside0.mk (HL1.out.below hb); have HS2 := Aside0.mk (HS1.out.below hb); have RA2 := Aside0.mk (hr); have CA2 := Aside0.mk (hc); have DA2 := Aside0.mk (hd); clear hr hc hd hb c3)
    | (go_at_call 27; refine (itake_any A2 b.length cA2 b _ CA2.out DA2.out RA2.out HBY.out).mono ?_; rw [HT.out]; rintro e w3 ⟨rfl, hb⟩; have HK3 := Aside0.mk (HK2.out.below hb); have HL3 := Aside0.mk (HL2.out.below hb); have HS3 := Aside0.mk (HS2.out.below hb); clear hb)
    | ((with_reducible refine gate_dst (N := 10) rfl ?_); refine box_event ?hg (N := 10) ?hd (cs := inoCells 0 0 0 0 0 0 0 0 0 0 0) (t := 57) ?hr ?_; (case hd => rfl); (case hg => rfl); (case hr => first | (go_simp; done) | (go_simp; rfl) | kernel_rfl); intro gi hg w4 hbox hb; have N1 := Aside0.mk (show gi ≠ gm ∧ gi ≠ gv ∧ gi ≠ gl ∧ B ≤ gi from by have h1 := HL3.out.lts; have h2 := HC.out.b1; exact ⟨by omega, by omega, by omega, by omega⟩); have G1 := Aside0.mk (show w3.heap.size ≤ gi from Nat.le_of_eq hg.symm); have HK4 := Aside0.mk (HK3.out.below hb); have HL4 := Aside0.mk (HL3.out.below hb); have HS4 := Aside0.mk (HS3.out.below hb); have Bi4 := Aside0.mk (hbox); have KB4 := Aside0.mk (Kp.of_below hb (fun k => k = gi)); clear hg hb hbox)
    | ((with_reducible refine gate_store (t := 57) (p := 10) (v := .tmp 34) rfl ?_); refine ev_store_row (by rfl) 57 (.tmp 10) (.tmp 34) (by rfl) gi (inoCells fa fk fs fl f0 f1 f2 f3 f4 f5 fp) (by kernel_rfl) (by kernel_rfl) 57 _ Bi4.out sizeInode (by rfl) (ino_all _ _ _ _ _ _ _ _ _ _ _) ?_; intro w5 hbox hg; have HK5 := Aside0.mk ((HK3.out.then_ (KB4.out.then_ (Kp.of_grown hg (Kp.refl _ (fun k => k = gi)) (fun k e => .inl (Option.some.inj e).symm)) (fun k hk => .inl hk)) (fun k hk => .inr (by rw [hk]; exact Nat.le_trans HK3.out.size G1.out)))); have HL5 := Aside0.mk (HL4.out.move (hg.block gl HL4.out.lts.1 (fun e => N1.out.2.2.1 (Option.some.inj e).symm)) (hg.block gm HL4.out.lts.2.1 (fun e => N1.out.1 (Option.some.inj e).symm)) (hg.block gv HL4.out.lts.2.2 (fun e => N1.out.2.1 (Option.some.inj e).symm))); have HS5 := Aside0.mk (HS4.out.kept (Kp.of_grown hg (Kp.refl _ (fun k => k = gi)) (fun k e => .inl (Option.some.inj e).symm)) (fun k hk => by rw [hk]; exact N1.out.2.2.2)); have Bi5 := Aside0.mk (hbox); have d0 : w5.cell? ⟨gi, 0, none⟩ = some (.int .i64 fa) := blk_cell hbox 0; clear hbox hg)
    | ((with_reducible refine gate_dst (N := 45) rfl ?_); refine wpList_load_row rfl 57 (.tmp 10) (by kernel_rfl) gi (by kernel_rfl) _ _ _ _ Bi5.out hu25.out rfl sizeInode ?_)
    | (go_at_call 29; refine (pointers_any fa fk fs fl f0 f1 f2 f3 f4 f5 fp _).mono ?_; rintro e w6 ⟨A6, c6, rfl, hr, hc, hb⟩; have HK6 := Aside0.mk (HK5.out.below hb); have HL6 := Aside0.mk (HL5.out.below hb); have HS6 := Aside0.mk (HS5.out.below hb); have Bi6 := Aside0.mk (blk_below Bi5.out hb); have R6 := Aside0.mk (hr); have R6a := Aside0.mk (And.intro hr (filt_range HDR.out)); clear hr hc hb d0)
    | (have hz := HL6.out; clear hz; go_at_call 28; refine (all_any w6 gl gm gv n K N S _ l1 v1 A6 _ c6 (filt [f0, f1, f2, f3, f4, f5, fp]) HL6.out HC.out.fK HC.out.fS HC.out.fn HMI.out.1 R6a.out.1 R6a.out.2 (by have h1 := HMI.out.2; have h2 := HC.out.ll; have h3 := R6a.out.1.1; have h4 := HFL.out; omega)).mono ?_; rw [HA.out]; rintro e w7 ⟨rfl, hl, hk⟩; have HK7 := Aside0.mk (HK6.out.then_ hk (fun _ h => .inl h)); have HL7 := Aside0.mk (hl); have HS7 := Aside0.mk (HS6.out.kept hk HC.out.two); have Bi7 := Aside0.mk ((hk.block gi (blk_lt Bi6.out) (fun h => h.elim N1.out.1 N1.out.2.1)).trans Bi6.out); clear hl; clear hk; have d5 : w7.cell? ⟨gi, 10, none⟩ = some (.int .u32 fp) := blk_cell Bi7.out 10))
  clear d5
  refine wp_region_held_drew (S := fun W => Below w7.heap.size w7 W) (by kernel_rfl) (below_drew (Below.refl w7.heap.size w7)) (fun hHeld => ?_)
  refine wpAnyH_take (i := 0) (oi := ⟨some 55, _, _, _, _, _⟩) (v := (.pointer (some ⟨gl, 0, none⟩))) rfl (by kernel_rfl) (by kernel_rfl) (by kernel_rfl) (fun _ _ _ h => h) (Or.inl ⟨by rfl, fun W hS => by go_simp⟩) hHeld ?_
  (try simp only [Act.put, List.setIfInBounds_toArray, List.set_cons_zero, List.set_cons_succ])
  refine wpAnyH_take (i := 1) (oi := ⟨some 56, _, _, _, _, _⟩) (v := (.pointer (some ⟨gl, 0, none⟩))) rfl (by kernel_rfl) (by kernel_rfl) (by kernel_rfl) (fun _ _ _ h => h) (Or.inl ⟨by rfl, fun W hS => by go_simp⟩) hHeld ?_
  (try simp only [Act.put, List.setIfInBounds_toArray, List.set_cons_zero, List.set_cons_succ])
  refine wpAnyH_take (i := 2) (oi := ⟨some 57, _, _, _, _, _⟩) (v := (.pointer (some ⟨gl, 3, none⟩))) rfl (by kernel_rfl) (by kernel_rfl) (by kernel_rfl) (fun _ _ _ h => h) (Or.inl ⟨by rfl, fun W hS => by go_simp⟩) hHeld ?_
  (try simp only [Act.put, List.setIfInBounds_toArray, List.set_cons_zero, List.set_cons_succ])
  refine wpAnyH_take (i := 3) (oi := ⟨some 58, _, _, _, _, _⟩) (v := (.func (.func 14) #[.agg #[.slice SA bl.length cs]] #[])) rfl (by kernel_rfl) (by kernel_rfl) (by kernel_rfl) (fun _ _ _ h => h) (Or.inl ⟨by rfl, fun W hS => by have c3 := (HL7.out.below hS).c3; go_simp⟩) hHeld ?_
  (try simp only [Act.put, List.setIfInBounds_toArray, List.set_cons_zero, List.set_cons_succ])
  refine wpAnyH_take (i := 4) (oi := ⟨some 59, _, _, _, _, _⟩) (v := (.pointer (some ⟨gi, 10, none⟩))) rfl (by kernel_rfl) (by kernel_rfl) (by kernel_rfl) (fun _ _ _ h => h) (Or.inl ⟨by rfl, fun W hS => by go_simp⟩) hHeld ?_
  (try simp only [Act.put, List.setIfInBounds_toArray, List.set_cons_zero, List.set_cons_succ])
  refine wpAnyH_take (i := 5) (oi := ⟨some 60, _, _, _, _, _⟩) (v := (.int .u32 fp)) rfl (by kernel_rfl) (by kernel_rfl) (by kernel_rfl) (fun _ _ _ h => h) (Or.inl ⟨by rfl, fun W hS => by have d5 : W.cell? ⟨gi, 10, none⟩ = some (.int .u32 fp) := blk_cell (blk_below Bi7.out hS) 10; go_simp⟩) hHeld ?_
  (try simp only [Act.put, List.setIfInBounds_toArray, List.set_cons_zero, List.set_cons_succ])
  refine wpAnyH_ready (rs := [6]) (by kernel_rfl) (by simp) ?_
  refine AllReadyH.cons rfl (fun K' hK' => ?_) AllReadyH.nil
  go_simp
  refine (read_any _ B SA cs bl fp (HS7.out.below hHeld) HFP.out HC.out.lb HC.out.fz).mono ?_
  rw [HX2.out]
  rintro e w8 ⟨A8, cA8, rfl, hr, hc, hd, hb⟩
  dsimp only
  refine hK'.out _ _ (below_step hHeld hb) (fun hH8 => ?_)
  have RA8 := Aside0.mk hr
  have CA8 := Aside0.mk hc
  have DA8 := Aside0.mk hd
  clear hK' K' hHeld hr hc hd hb
  have hHeld := hH8
  clear hH8
  (try simp only [Act.put, List.setIfInBounds_toArray, List.set_cons_zero, List.set_cons_succ])
  refine wpAnyH_take (i := 7) (oi := ⟨some 54, _, _, _, _, _⟩) (v := (.tuple #[.slice A8 b2.length cA8, .int .i64 0])) rfl (by kernel_rfl) (by kernel_rfl) (by kernel_rfl) (fun _ _ _ h => h) (Or.inl ⟨by rfl, fun W hS => by go_simp⟩) hHeld ?_
  (try simp only [Act.put, List.setIfInBounds_toArray, List.set_cons_zero, List.set_cons_succ])
  refine wpAnyH_take (i := 8) (oi := ⟨some 62, _, _, _, _, _⟩) (v := (.slice A8 b2.length cA8)) rfl (by kernel_rfl) (by kernel_rfl) (by kernel_rfl) (fun _ _ _ h => h) (Or.inl ⟨by rfl, fun W hS => by go_simp⟩) hHeld ?_
  (try simp only [Act.put, List.setIfInBounds_toArray, List.set_cons_zero, List.set_cons_succ])
  refine wpAnyH_take (i := 9) (oi := ⟨some 63, _, _, _, _, _⟩) (v := (.int .i64 0)) rfl (by kernel_rfl) (by kernel_rfl) (by kernel_rfl) (fun _ _ _ h => h) (Or.inl ⟨by rfl, fun W hS => by go_simp⟩) hHeld ?_
  (try simp only [Act.put, List.setIfInBounds_toArray, List.set_cons_zero, List.set_cons_succ])
  refine wpAnyH_take (i := 10) (oi := ⟨some 8, _, _, _, _, _⟩) (v := (.slice A8 b2.length cA8)) rfl (by kernel_rfl) (by kernel_rfl) (by kernel_rfl) (fun _ _ _ h => h) (Or.inl ⟨by rfl, fun W hS => by go_simp⟩) hHeld ?_
  (try simp only [Act.put, List.setIfInBounds_toArray, List.set_cons_zero, List.set_cons_succ])
  refine wpAnyH_take (i := 11) (oi := ⟨some 9, _, _, _, _, _⟩) (v := (.int .i64 0)) rfl (by kernel_rfl) (by kernel_rfl) (by kernel_rfl) (fun _ _ _ h => h) (Or.inl ⟨by rfl, fun W hS => by go_simp⟩) hHeld ?_
  (try simp only [Act.put, List.setIfInBounds_toArray, List.set_cons_zero, List.set_cons_succ])
  refine wpAnyH_done (by kernel_rfl) ?_ _
  have HK8 := Aside0.mk (HK7.out.below hHeld)
  have HL8 := Aside0.mk (HL7.out.below hHeld)
  have HS8 := Aside0.mk (HS7.out.below hHeld)
  have Bi8 := Aside0.mk (blk_below Bi7.out hHeld)
  clear hHeld
  (try simp only [Exit.then])
  obtain ⟨ad8, rfl, _⟩ := RA8.out.2.2 (by rw [HNL.out]; decide)
  rw [HNL.out] at RA8 CA8 ⊢
  go_wp2_with (first
    | (go_at_call 30; refine (take_yes ad8 cA8 b2 _ CA8.out DA8.out RA8.out HBY2.out).mono ?_; rintro e w9 ⟨v9, rfl, ho, hb⟩; have HK9 := Aside0.mk (HK8.out.below hb); have HL9 := Aside0.mk (HL8.out.below hb); have HS9 := Aside0.mk (HS8.out.below hb); have Bi9 := Aside0.mk (blk_below Bi8.out hb); obtain ⟨A9, c9, rfl, hr9⟩ := own_reads ho; have R9 := Aside0.mk (show ReadsInt w9 .u32 A9 m ((words b2).take m) ∧ ∀ x ∈ (words b2).take m, 0 ≤ x ∧ x < 4294967296 from ⟨reads_prefix hr9 HM2.out, fun x hx => words_range (getD_b HBY2.out) x (List.mem_of_mem_take hx)⟩); have hc9 := own_le ho; have hc9' : m ≤ c9 := (by omega); have hc9i : (m : Int) ≤ (c9 : Int) := (by omega); have d2 : w9.cell? ⟨gi, 2, none⟩ = some (.int .i64 fs) := blk_cell Bi9.out 2; clear ho hb hr9)
    | (go_at_call 31; refine (blocks_any fs _ HFS.out).mono ?_; rw [HBK.out]; rintro e w' ⟨rfl, rfl⟩)
    | (have hz := HL9.out; clear hz; go_at_call 28; refine (all_any w9 gl gm gv n K N S _ l2 v2 A9 _ c9 ((words b2).take m) HL9.out HC.out.fK HC.out.fS HC.out.fn HAI2.out.1 R9.out.1 R9.out.2 (by have h1 := HAI2.out.2; have h2 := HC.out.ll; have h3 := R9.out.1.1; have h4 := HWL.out; omega)).mono ?_; rw [HA2.out]; rintro e w10 ⟨rfl, hl, hk⟩; have HK10 := Aside0.mk (HK9.out.then_ hk (fun _ h => .inl h)); have HL10 := Aside0.mk (hl); have HS10 := Aside0.mk (HS9.out.kept hk HC.out.two); have Bi10 := Aside0.mk ((hk.block gi (blk_lt Bi9.out) (fun h => h.elim N1.out.1 N1.out.2.1)).trans Bi9.out); clear hl; clear hk))
  go_ret
  exact ⟨rfl, HL10.out, HK10.out⟩
end Go.Proofs.Ytgiapegacbibeaa.UM
