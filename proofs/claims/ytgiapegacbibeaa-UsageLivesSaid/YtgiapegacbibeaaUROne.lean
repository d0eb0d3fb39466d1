/- The document's look: an inode's block. -/
import Derived.Test.YtgiapegacbibeaaURT
import Derived.Test.YtgiapegacbibeaaUInoAny
namespace Go.Proofs.Ytgiapegacbibeaa.UM
open Go.RowKit Go.Proofs.YtgiapegacbibeaaX Go.Proofs.YtgiapegacbibeaaW.PrintWords
set_option linter.unusedVariables false
def RIPost (w : World) (gl gv n Bb : Nat) (K N S : Int) (sv : Value) : Int × List Int × List Int → Ending → World → Prop
  | (x, l', v'), e, w' => e = .returned (.int .i64 x) ∧ (x = 0 → ∃ sv', RL w' gl gv n Bb K N S sv' l'.reverse v' ∧ OwnB w sv sv') ∧ Kp w w' (SS gl gv sv)
theorem own_new {W : World} {base n m c size : Nat} {e : TypeId} {A : Option Addr} {xs : List Value} (h : W.ownsRow base e size (.slice A n c) m xs) : ∀ ad, A = some ad → base ≤ ad.block := by
  rintro ad rfl
  rcases h.2 with ⟨he, _⟩ | ⟨g, cap, cur, he, hb, _⟩
  · cases he
  · cases he; exact hb
theorem RL.away {W : World} {gl gv n B k : Nat} {K N S : Int} {sv : Value} {r v : List Int} (h : RL W gl gv n B K N S sv r v) (hk : W.heap.size ≤ k) : ¬ SS gl gv sv k := by
  have h1 := h.lts
  rintro (h2 | h2 | h2)
  · omega
  · omega
  · have := own_lt h.seen k h2; omega
theorem RL.grown {W W1 : World} {gl gv n B g : Nat} {K N S : Int} {sv : Value} {r v : List Int} (h : RL W gl gv n B K N S sv r v) (hg : W.grownBy W1 (some g)) (h1 : g ≠ gl) (h2 : g ≠ gv) (h3 : sv.ownBlock ≠ some g) : RL W1 gl gv n B K N S sv r v :=
  ⟨blk_grown h.blk hg (fun e => h1 (Option.some.inj e).symm), own_other h.seen hg (.inr h3), blk_grown h.vec hg (fun e => h2 (Option.some.inj e).symm), h.ne, Nat.le_trans h.base hg.size⟩
theorem RL.low {W : World} {gl gv n B : Nat} {K N S : Int} {sv : Value} {r v : List Int} (h : RL W gl gv n B K N S sv r v) (h1 : B ≤ gl) (h2 : B ≤ gv) : ∀ k, SS gl gv sv k → B ≤ k := by
  rintro k (h3 | h3 | h3)
  · rw [h3]; exact h1
  · rw [h3]; exact h2
  · exact own_base h.seen k h3
/-- What the walk holds. -/
structure RC (w : World) (gl gv n Bb : Nat) (K N S : Int) (sv : Value) (l v : List Int) (SA : Option Addr) (cs : Nat) (bl : List (List Int)) (a : Int) : Prop where
  fL : RL w gl gv n Bb K N S sv l.reverse v
  fB : BS w Bb SA cs bl
  b1 : Bb ≤ gl
  b2 : Bb ≤ gv
  fK : 1 ≤ K ∧ K ≤ 255
  fS : 1 ≤ S ∧ S ≤ 128
  fn : (n : Int) = S
  fi : Inv n l v
  fa : 0 ≤ a ∧ a < 4294967296
  lb : bl.length ≤ 9223372036854775807
  fz : ∀ b ∈ bl, b.length ≤ 140737488355328
  fy : ∀ b ∈ bl, ∀ x ∈ b, 0 ≤ x ∧ x < 256
  ll : l.length ≤ 500000
set_option maxHeartbeats 4000000 in
set_option maxRecDepth 100000 in
theorem one_1 (w : World) (gl gv n Bb : Nat) (K N S : Int) (sv : Value) (l v : List Int) (SA : Option Addr) (cs : Nat) (bl : List (List Int)) (ino a : Int) (HC : Aside0 (RC w gl gv n Bb K N S sv l v SA cs bl a)) (HM : Aside0 (meetN K S a l v = none)) :
    Calls Try.prog 23 #[.pointer (some ⟨gl, 0, none⟩), .slice SA bl.length cs, .int .i64 ino, .int .u32 a] w fun e w' => e = .returned (.int .i64 5) ∧ Kp w w' (SS gl gv sv) := by
  have hu25 := Aside0.mk Try.underlying57
  go_enter Try.func23, Try.ntmps23
  go_wp2_with (first
    | (go_at_call 32; refine (rmeet_any w gl gv n Bb K N S sv l v a HC.out.fL HC.out.fK HC.out.fS HC.out.fa HC.out.fn HC.out.fi (by have := HC.out.ll; omega)).mono ?_; rw [HM.out]; rintro e w1 ⟨rfl, hk⟩; have HK1 := Aside0.mk (hk); clear hk))
  go_ret
  exact ⟨rfl, HK1.out⟩
set_option maxHeartbeats 4000000 in
set_option maxRecDepth 100000 in
theorem one_2 (w : World) (gl gv n Bb : Nat) (K N S : Int) (sv : Value) (l v : List Int) (SA : Option Addr) (cs : Nat) (bl : List (List Int)) (ino a : Int) (HC : Aside0 (RC w gl gv n Bb K N S sv l v SA cs bl a)) (l1 v1 : List Int) (HM : Aside0 (meetN K S a l v = some (l1, v1))) (b : List Int) (x : Int) (HX : Aside0 (rdN bl a = (b, x))) (hx : (x != 0) = true) (hx' : x ≠ 0) :
    Calls Try.prog 23 #[.pointer (some ⟨gl, 0, none⟩), .slice SA bl.length cs, .int .i64 ino, .int .u32 a] w fun e w' => e = .returned (.int .i64 x) ∧ Kp w w' (SS gl gv sv) := by
  have hu25 := Aside0.mk Try.underlying57
  go_enter Try.func23, Try.ntmps23
  go_wp2_with (first
    | (go_at_call 32; refine (rmeet_any w gl gv n Bb K N S sv l v a HC.out.fL HC.out.fK HC.out.fS HC.out.fa HC.out.fn HC.out.fi (by have := HC.out.ll; omega)).mono ?_; rw [HM.out]; rintro e w1 ⟨rfl, s1, hl, hk, ho⟩; have HK1 := Aside0.mk (hk); have HL1 := Aside0.mk (hl); have HO1 := Aside0.mk (ho); have HS1 := Aside0.mk (HC.out.fB.kept hk (HC.out.fL.low HC.out.b1 HC.out.b2)); clear hk hl ho)
    | (have hz := HL1.out; clear hz; go_at_call 22; refine (rread_any w1 Bb SA cs bl a HS1.out HC.out.fa HC.out.lb).mono ?_; rw [HX.out]; rintro e w2 ⟨A2, cA2, rfl, hr, hc, hb⟩; have HK2 := Aside0.mk (HK1.out.below hb); have HL2 := Aside0.mk (HL1.out.below hb); have HS2 := Aside0.mk (HS1.out.below hb); have RA2 := Aside0.mk (hr); have CA2 := Aside0.mk (hc); clear hr hc hb))
  go_ret
  exact ⟨rfl, HK2.out⟩
set_option maxHeartbeats 4000000 in
set_option maxRecDepth 100000 in
theorem one_3 (w : World) (gl gv n Bb : Nat) (K N S : Int) (sv : Value) (l v : List Int) (SA : Option Addr) (cs : Nat) (bl : List (List Int)) (ino a : Int) (HC : Aside0 (RC w gl gv n Bb K N S sv l v SA cs bl a)) (l1 v1 : List Int) (HM : Aside0 (meetN K S a l v = some (l1, v1))) (b : List Int) (HX : Aside0 (rdN bl a = (b, 0))) (HBY : Aside0 (∀ x ∈ b, 0 ≤ x ∧ x < 256)) (fa fk fs fl f0 f1 f2 f3 f4 f5 fp fe : Int) (HT : Aside0 (takeR b = (inoCells fa fk fs fl f0 f1 f2 f3 f4 f5 fp, fe))) (hx : (fe != 0) = true) (hx' : fe ≠ 0) :
    Calls Try.prog 23 #[.pointer (some ⟨gl, 0, none⟩), .slice SA bl.length cs, .int .i64 ino, .int .u32 a] w fun e w' => e = .returned (.int .i64 5) ∧ Kp w w' (SS gl gv sv) := by
  have hu25 := Aside0.mk Try.underlying57
  go_enter Try.func23, Try.ntmps23
  go_wp2_with (first
    | (go_at_call 32; refine (rmeet_any w gl gv n Bb K N S sv l v a HC.out.fL HC.out.fK HC.out.fS HC.out.fa HC.out.fn HC.out.fi (by have := HC.out.ll; omega)).mono ?_; rw [HM.out]; rintro e w1 ⟨rfl, s1, hl, hk, ho⟩; have HK1 := Aside0.mk (hk); have HL1 := Aside0.mk (hl); have HO1 := Aside0.mk (ho); have HS1 := Aside0.mk (HC.out.fB.kept hk (HC.out.fL.low HC.out.b1 HC.out.b2)); clear hk hl ho)
    | (have hz := HL1.out; clear hz; go_at_call 22; refine (rread_any w1 Bb SA cs bl a HS1.out HC.out.fa HC.out.lb).mono ?_; rw [HX.out]; rintro e w2 ⟨A2, cA2, rfl, hr, hc, hb⟩; have HK2 := Aside0.mk (HK1.out.below hb); have HL2 := Aside0.mk (HL1.out.below hb); have HS2 := Aside0.mk (HS1.out.below hb); have RA2 := Aside0.mk (hr); have CA2 := Aside0.mk (hc); clear hr hc hb)
    | (go_at_call 33; refine (rtake_any A2 b.length cA2 b _ CA2.out RA2.out HBY.out).mono ?_; rw [HT.out]; rintro e w3 ⟨rfl, hb⟩; have HK3 := Aside0.mk (HK2.out.below hb); have HL3 := Aside0.mk (HL2.out.below hb); have HS3 := Aside0.mk (HS2.out.below hb); clear hb)
    | ((with_reducible refine gate_dst (N := 11) rfl ?_); refine box_event ?hg (N := 11) ?hd (cs := inoCells 0 0 0 0 0 0 0 0 0 0 0) (t := 57) ?hr ?_; (case hd => rfl); (case hg => rfl); (case hr => first | (go_simp; done) | (go_simp; rfl) | kernel_rfl); intro gi hg w4 hbox hb; have N1 := Aside0.mk (show gi ≠ gl ∧ gi ≠ gv ∧ Bb ≤ gi from by have h1 := HL3.out.lts; have h2 := HC.out.b1; exact ⟨by omega, by omega, by omega⟩); have G1 := Aside0.mk (show w3.heap.size ≤ gi from Nat.le_of_eq hg.symm); have HK4 := Aside0.mk (HK3.out.below hb); have HL4 := Aside0.mk (HL3.out.below hb); have HS4 := Aside0.mk (HS3.out.below hb); have Bi4 := Aside0.mk (hbox); have KB4 := Aside0.mk (Kp.of_below hb (fun k => k = gi)); clear hg hb hbox)
    | ((with_reducible refine gate_store (t := 57) (p := 11) (v := .tmp 32) rfl ?_); refine ev_store_row (by rfl) 57 (.tmp 11) (.tmp 32) (by rfl) gi (inoCells fa fk fs fl f0 f1 f2 f3 f4 f5 fp) (by kernel_rfl) (by kernel_rfl) 57 _ Bi4.out sizeInode (by rfl) (ino_all _ _ _ _ _ _ _ _ _ _ _) ?_; intro w5 hbox hg; have HK5 := Aside0.mk ((HK3.out.then_ (KB4.out.then_ (Kp.of_grown hg (Kp.refl _ (fun k => k = gi)) (fun k e => .inl (Option.some.inj e).symm)) (fun k hk => .inl hk)) (fun k hk => .inr (by rw [hk]; exact Nat.le_trans HK3.out.size G1.out)))); have HL5 := Aside0.mk (HL4.out.grown hg N1.out.1 N1.out.2.1 (fun e => own_ne HL4.out.seen Bi4.out (by decide) e.symm)); have HS5 := Aside0.mk (HS4.out.kept (Kp.of_grown hg (Kp.refl _ (fun k => k = gi)) (fun k e => .inl (Option.some.inj e).symm)) (fun k hk => by rw [hk]; exact N1.out.2.2)); have Bi5 := Aside0.mk (hbox); have d0 : w5.cell? ⟨gi, 0, none⟩ = some (.int .i64 fa) := blk_cell hbox 0; clear hbox hg))
  go_ret
  exact ⟨rfl, HK5.out⟩
set_option maxHeartbeats 4000000 in
set_option maxRecDepth 100000 in
theorem one_4 (w : World) (gl gv n Bb : Nat) (K N S : Int) (sv : Value) (l v : List Int) (SA : Option Addr) (cs : Nat) (bl : List (List Int)) (ino a : Int) (HC : Aside0 (RC w gl gv n Bb K N S sv l v SA cs bl a)) (l1 v1 : List Int) (HM : Aside0 (meetN K S a l v = some (l1, v1))) (b : List Int) (HX : Aside0 (rdN bl a = (b, 0))) (HBY : Aside0 (∀ x ∈ b, 0 ≤ x ∧ x < 256)) (fa fk fs fl f0 f1 f2 f3 f4 f5 fp : Int) (HT : Aside0 (takeR b = (inoCells fa fk fs fl f0 f1 f2 f3 f4 f5 fp, 0))) (hx : (fa != ino) = true) (hx' : fa ≠ ino) :
    Calls Try.prog 23 #[.pointer (some ⟨gl, 0, none⟩), .slice SA bl.length cs, .int .i64 ino, .int .u32 a] w fun e w' => e = .returned (.int .i64 5) ∧ Kp w w' (SS gl gv sv) := by
  have hu25 := Aside0.mk Try.underlying57
  go_enter Try.func23, Try.ntmps23
  go_wp2_with (first
    | (go_at_call 32; refine (rmeet_any w gl gv n Bb K N S sv l v a HC.out.fL HC.out.fK HC.out.fS HC.out.fa HC.out.fn HC.out.fi (by have := HC.out.ll; omega)).mono ?_; rw [HM.out]; rintro e w1 ⟨rfl, s1, hl, hk, ho⟩; have HK1 := Aside0.mk (hk); have HL1 := Aside0.mk (hl); have HO1 := Aside0.mk (ho); have HS1 := Aside0.mk (HC.out.fB.kept hk (HC.out.fL.low HC.out.b1 HC.out.b2)); clear hk hl ho)
    | (have hz := HL1.out; clear hz; go_at_call 22; refine (rread_any w1 Bb SA cs bl a HS1.out HC.out.fa HC.out.lb).mono ?_; rw [HX.out]; rintro e w2 ⟨A2, cA2, rfl, hr, hc, hb⟩; have HK2 := Aside0.mk (HK1.out.below hb); have HL2 := Aside0.mk (HL1.out.below hb); have HS2 := Aside0.mk (HS1.out.below hb); have RA2 := Aside0.mk (hr); have CA2 := Aside0.mk (hc); clear hr hc hb)
    | (go_at_call 33; refine (rtake_any A2 b.length cA2 b _ CA2.out RA2.out HBY.out).mono ?_; rw [HT.out]; rintro e w3 ⟨rfl, hb⟩; have HK3 := Aside0.mk (HK2.out.below hb); have HL3 := Aside0.mk (HL2.out.below hb); have HS3 := Aside0.mk (HS2.out.below hb); clear hb)
    | ((with_reducible refine gate_dst (N := 11) rfl ?_); refine box_event ?hg (N := 11) ?hd (cs := inoCells 0 0 0 0 0 0 0 0 0 0 0) (t := 57) ?hr ?_; (case hd => rfl); (case hg => rfl); (case hr => first | (go_simp; done) | (go_simp; rfl) | kernel_rfl); intro gi hg w4 hbox hb; have N1 := Aside0.mk (show gi ≠ gl ∧ gi ≠ gv ∧ Bb ≤ gi from by have h1 := HL3.out.lts; have h2 := HC.out.b1; exact ⟨by omega, by omega, by omega⟩); have G1 := Aside0.mk (show w3.heap.size ≤ gi from Nat.le_of_eq hg.symm); have HK4 := Aside0.mk (HK3.out.below hb); have HL4 := Aside0.mk (HL3.out.below hb); have HS4 := Aside0.mk (HS3.out.below hb); have Bi4 := Aside0.mk (hbox); have KB4 := Aside0.mk (Kp.of_below hb (fun k => k = gi)); clear hg hb hbox)
    | ((with_reducible refine gate_store (t := 57) (p := 11) (v := .tmp 32) rfl ?_); refine ev_store_row (by rfl) 57 (.tmp 11) (.tmp 32) (by rfl) gi (inoCells fa fk fs fl f0 f1 f2 f3 f4 f5 fp) (by kernel_rfl) (by kernel_rfl) 57 _ Bi4.out sizeInode (by rfl) (ino_all _ _ _ _ _ _ _ _ _ _ _) ?_; intro w5 hbox hg; have HK5 := Aside0.mk ((HK3.out.then_ (KB4.out.then_ (Kp.of_grown hg (Kp.refl _ (fun k => k = gi)) (fun k e => .inl (Option.some.inj e).symm)) (fun k hk => .inl hk)) (fun k hk => .inr (by rw [hk]; exact Nat.le_trans HK3.out.size G1.out)))); have HL5 := Aside0.mk (HL4.out.grown hg N1.out.1 N1.out.2.1 (fun e => own_ne HL4.out.seen Bi4.out (by decide) e.symm)); have HS5 := Aside0.mk (HS4.out.kept (Kp.of_grown hg (Kp.refl _ (fun k => k = gi)) (fun k e => .inl (Option.some.inj e).symm)) (fun k hk => by rw [hk]; exact N1.out.2.2)); have Bi5 := Aside0.mk (hbox); have d0 : w5.cell? ⟨gi, 0, none⟩ = some (.int .i64 fa) := blk_cell hbox 0; clear hbox hg))
  go_ret
  exact ⟨rfl, HK5.out⟩
set_option maxHeartbeats 4000000 in
set_option maxRecDepth 100000 in
theorem one_5 (w : World) (gl gv n Bb : Nat) (K N S : Int) (sv : Value) (l v : List Int) (SA : Option Addr) (cs : Nat) (bl : List (List Int)) (ino a : Int) (HC : Aside0 (RC w gl gv n Bb K N S sv l v SA cs bl a)) (l1 v1 : List Int) (HM : Aside0 (meetN K S a l v = some (l1, v1))) (b : List Int) (HX : Aside0 (rdN bl a = (b, 0))) (HBY : Aside0 (∀ x ∈ b, 0 ≤ x ∧ x < 256)) (fa fk fs fl f0 f1 f2 f3 f4 f5 fp : Int) (HT : Aside0 (takeR b = (inoCells fa fk fs fl f0 f1 f2 f3 f4 f5 fp, 0))) (hx : (fa != ino) = false) (HA : Aside0 (allN K S (filt [f0, f1, f2, f3, f4, f5, fp]) l1 v1 = none)) (HDR : Aside0 (∀ x ∈ [f0, f1, f2, f3, f4, f5, fp], 0 ≤ x ∧ x < 4294967296)) :
    Calls Try.prog 23 #[.pointer (some ⟨gl, 0, none⟩), .slice SA bl.length cs, .int .i64 ino, .int .u32 a] w fun e w' => e = .returned (.int .i64 5) ∧ Kp w w' (SS gl gv sv) := by
  have hu25 := Aside0.mk Try.underlying57
  have HMI := Aside0.mk (show Inv n l1 v1 ∧ l1.length ≤ l.length + 1 from ⟨(meet_inv HC.out.fi HM.out).1, Nat.le_of_eq (meet_inv HC.out.fi HM.out).2⟩)
  have HFL := Aside0.mk (show (filt [f0, f1, f2, f3, f4, f5, fp]).length ≤ 7 from List.length_filter_le _ _)
  go_enter Try.func23, Try.ntmps23
  go_wp2_with (first
    | (go_at_call 32; refine (rmeet_any w gl gv n Bb K N S sv l v a HC.out.fL HC.out.fK HC.out.fS HC.out.fa HC.out.fn HC.out.fi (by have := HC.out.ll; omega)).mono ?_; rw [HM.out]; rintro e w1 ⟨rfl, s1, hl, hk, ho⟩; have HK1 := Aside0.mk (hk); have HL1 := Aside0.mk (hl); have HO1 := Aside0.mk (ho); have HS1 := Aside0.mk (HC.out.fB.kept hk (HC.out.fL.low HC.out.b1 HC.out.b2)); clear hk hl ho)
    | (have hz := HL1.out; clear hz; go_at_call 22; refine (rread_any w1 Bb SA cs bl a HS1.out HC.out.fa HC.out.lb).mono ?_; rw [HX.out]; rintro e w2 ⟨A2, cA2, rfl, hr, hc, hb⟩; have HK2 := Aside0.mk (HK1.out.below hb); have HL2 := Aside0.mk (HL1.out.below hb); have HS2 := Aside0.mk (HS1.out.below hb); have RA2 := Aside0.mk (hr); have CA2 := Aside0.mk (hc); clear hr hc hb)
    | (go_at_call 33; refine (rtake_any A2 b.length cA2 b _ CA2.out RA2.out HBY.out).mono ?_; rw [HT.out]; rintro e w3 ⟨rfl, hb⟩; have HK3 := Aside0.mk (HK2.out.below hb); have HL3 := Aside0.mk (HL2.out.below hb); have HS3 := Aside0.mk (HS2.out.below hb); clear hb)
    | ((with_reducible refine gate_dst (N := 11) rfl ?_); refine box_event ?hg (N := 11) ?hd (cs := inoCells 0 0 0 0 0 0 0 0 0 0 0) (t := 57) ?hr ?_; (case hd => rfl); (case hg => rfl); (case hr => first | (go_simp; done) | (go_simp; rfl) | kernel_rfl); intro gi hg w4 hbox hb; have N1 := Aside0.mk (show gi ≠ gl ∧ gi ≠ gv ∧ Bb ≤ gi from by have h1 := HL3.out.lts; have h2 := HC.out.b1; exact ⟨by omega, by omega, by omega⟩); have G1 := Aside0.mk (show w3.heap.size ≤ gi from Nat.le_of_eq hg.symm); have HK4 := Aside0.mk (HK3.out.below hb); have HL4 := Aside0.mk (HL3.out.below hb); have HS4 := Aside0.mk (HS3.out.below hb); have Bi4 := Aside0.mk (hbox); have KB4 := Aside0.mk (Kp.of_below hb (fun k => k = gi)); clear hg hb hbox)
    | ((with_reducible refine gate_store (t := 57) (p := 11) (v := .tmp 32) rfl ?_); refine ev_store_row (by rfl) 57 (.tmp 11) (.tmp 32) (by rfl) gi (inoCells fa fk fs fl f0 f1 f2 f3 f4 f5 fp) (by kernel_rfl) (by kernel_rfl) 57 _ Bi4.out sizeInode (by rfl) (ino_all _ _ _ _ _ _ _ _ _ _ _) ?_; intro w5 hbox hg; have HK5 := Aside0.mk ((HK3.out.then_ (KB4.out.then_ (Kp.of_grown hg (Kp.refl _ (fun k => k = gi)) (fun k e => .inl (Option.some.inj e).symm)) (fun k hk => .inl hk)) (fun k hk => .inr (by rw [hk]; exact Nat.le_trans HK3.out.size G1.out)))); have HL5 := Aside0.mk (HL4.out.grown hg N1.out.1 N1.out.2.1 (fun e => own_ne HL4.out.seen Bi4.out (by decide) e.symm)); have HS5 := Aside0.mk (HS4.out.kept (Kp.of_grown hg (Kp.refl _ (fun k => k = gi)) (fun k e => .inl (Option.some.inj e).symm)) (fun k hk => by rw [hk]; exact N1.out.2.2)); have Bi5 := Aside0.mk (hbox); have d0 : w5.cell? ⟨gi, 0, none⟩ = some (.int .i64 fa) := blk_cell hbox 0; clear hbox hg)
    | ((with_reducible refine gate_dst (N := 43) rfl ?_); refine wpList_load_row rfl 57 (.tmp 11) (by kernel_rfl) gi (by kernel_rfl) _ _ _ _ Bi5.out hu25.out rfl sizeInode ?_)
    | (go_at_call 35; refine (rptr_own fa fk fs fl f0 f1 f2 f3 f4 f5 fp _).mono ?_; rintro e w6 ⟨A6, c6, rfl, ho, hb⟩; have HK6 := Aside0.mk (HK5.out.below hb); have HL6 := Aside0.mk (HL5.out.below hb); have HS6 := Aside0.mk (HS5.out.below hb); have Bi6 := Aside0.mk (blk_below Bi5.out hb); have R6a := Aside0.mk (And.intro (own_reads' ho) (filt_range HDR.out)); have HD6 := Aside0.mk (show ∀ ad, A6 = some ad → 0 < (filt [f0, f1, f2, f3, f4, f5, fp]).length → ¬ SS gl gv s1 ad.block from fun ad he _ => HL5.out.away (own_new ho ad he)); clear ho hb d0)
    | (have hz := HL6.out; clear hz; go_at_call 34; refine (rall_any w6 gl gv n Bb K N S s1 l1 v1 A6 _ c6 (filt [f0, f1, f2, f3, f4, f5, fp]) HL6.out HC.out.fK HC.out.fS HC.out.fn HMI.out.1 R6a.out.1 HD6.out R6a.out.2 (by have h1 := HMI.out.2; have h2 := HC.out.ll; have h3 := R6a.out.1.1; have h4 := HFL.out; omega)).mono ?_; rw [HA.out]; rintro e w7 ⟨rfl, hk⟩; have HK7 := Aside0.mk (HK6.out.then_ hk (fun _ h => SS.turn HO1.out h)); clear hk))
  go_ret
  exact ⟨rfl, HK7.out⟩
set_option maxHeartbeats 4000000 in
set_option maxRecDepth 100000 in
theorem one_6 (w : World) (gl gv n Bb : Nat) (K N S : Int) (sv : Value) (l v : List Int) (SA : Option Addr) (cs : Nat) (bl : List (List Int)) (ino a : Int) (HC : Aside0 (RC w gl gv n Bb K N S sv l v SA cs bl a)) (l1 v1 : List Int) (HM : Aside0 (meetN K S a l v = some (l1, v1))) (b : List Int) (HX : Aside0 (rdN bl a = (b, 0))) (HBY : Aside0 (∀ x ∈ b, 0 ≤ x ∧ x < 256)) (fa fk fs fl f0 f1 f2 f3 f4 f5 fp : Int) (HT : Aside0 (takeR b = (inoCells fa fk fs fl f0 f1 f2 f3 f4 f5 fp, 0))) (hx : (fa != ino) = false) (l2 v2 : List Int) (HA : Aside0 (allN K S (filt [f0, f1, f2, f3, f4, f5, fp]) l1 v1 = some (l2, v2))) (HDR : Aside0 (∀ x ∈ [f0, f1, f2, f3, f4, f5, fp], 0 ≤ x ∧ x < 4294967296)) (hp : (fp == 0) = true) :
    Calls Try.prog 23 #[.pointer (some ⟨gl, 0, none⟩), .slice SA bl.length cs, .int .i64 ino, .int .u32 a] w fun e w' => e = .returned (.int .i64 0) ∧ (∃ sv', RL w' gl gv n Bb K N S sv' l2.reverse v2 ∧ OwnB w sv sv') ∧ Kp w w' (SS gl gv sv) := by
  have hu25 := Aside0.mk Try.underlying57
  have HMI := Aside0.mk (show Inv n l1 v1 ∧ l1.length ≤ l.length + 1 from ⟨(meet_inv HC.out.fi HM.out).1, Nat.le_of_eq (meet_inv HC.out.fi HM.out).2⟩)
  have HFL := Aside0.mk (show (filt [f0, f1, f2, f3, f4, f5, fp]).length ≤ 7 from List.length_filter_le _ _)
  go_enter Try.func23, Try.ntmps23
  go_wp2_with (first
    | (go_at_call 32; refine (rmeet_any w gl gv n Bb K N S sv l v a HC.out.fL HC.out.fK HC.out.fS HC.out.fa HC.out.fn HC.out.fi (by have := HC.out.ll; omega)).mono ?_; rw [HM.out]; rintro e w1 ⟨rfl, s1, hl, hk, ho⟩; have HK1 := Aside0.mk (hk); have HL1 := Aside0.mk (hl); have HO1 := Aside0.mk (ho); have HS1 := Aside0.mk (HC.out.fB.kept hk (HC.out.fL.low HC.out.b1 HC.out.b2)); clear hk hl ho)
    | (have hz := HL1.out; clear hz; go_at_call 22; refine (rread_any w1 Bb SA cs bl a HS1.out HC.out.fa HC.out.lb).mono ?_; rw [HX.out]; rintro e w2 ⟨A2, cA2, rfl, hr, hc, hb⟩; have HK2 := Aside0.mk (HK1.out.below hb); have HL2 := Aside0.mk (HL1.out.below hb); have HS2 := Aside0.mk (HS1.out.below hb); have RA2 := Aside0.mk (hr); have CA2 := Aside0.mk (hc); clear hr hc hb)
    | (go_at_call 33; refine (rtake_any A2 b.length cA2 b _ CA2.out RA2.out HBY.out).mono ?_; rw [HT.out]; rintro e w3 ⟨rfl, hb⟩; have HK3 := Aside0.mk (HK2.out.below hb); have HL3 := Aside0.mk (HL2.out.below hb); have HS3 := Aside0.mk (HS2.out.below hb); clear hb)
    | ((with_reducible refine gate_dst (N := 11) rfl ?_); refine box_event ?hg (N := 11) ?hd (cs := inoCells 0 0 0 0 0 0 0 0 0 0 0) (t := 57) ?hr ?_; (case hd => rfl); (case hg => rfl); (case hr => first | (go_simp; done) | (go_simp; rfl) | kernel_rfl); intro gi hg w4 hbox hb; have N1 := Aside0.mk (show gi ≠ gl ∧ gi ≠ gv ∧ Bb ≤ gi from by have h1 := HL3.out.lts; have h2 := HC.out.b1; exact ⟨by omega, by omega, by omega⟩); have G1 := Aside0.mk (show w3.heap.size ≤ gi from Nat.le_of_eq hg.symm); have HK4 := Aside0.mk (HK3.out.below hb); have HL4 := Aside0.mk (HL3.out.below hb); have HS4 := Aside0.mk (HS3.out.below hb); have Bi4 := Aside0.mk (hbox); have KB4 := Aside0.mk (Kp.of_below hb (fun k => k = gi)); clear hg hb hbox)
    | ((with_reducible refine gate_store (t := 57) (p := 11) (v := .tmp 32) rfl ?_); refine ev_store_row (by rfl) 57 (.tmp 11) (.tmp 32) (by rfl) gi (inoCells fa fk fs fl f0 f1 f2 f3 f4 f5 fp) (by kernel_rfl) (by kernel_rfl) 57 _ Bi4.out sizeInode (by rfl) (ino_all _ _ _ _ _ _ _ _ _ _ _) ?_; intro w5 hbox hg; have HK5 := Aside0.mk ((HK3.out.then_ (KB4.out.then_ (Kp.of_grown hg (Kp.refl _ (fun k => k = gi)) (fun k e => .inl (Option.some.inj e).symm)) (fun k hk => .inl hk)) (fun k hk => .inr (by rw [hk]; exact Nat.le_trans HK3.out.size G1.out)))); have HL5 := Aside0.mk (HL4.out.grown hg N1.out.1 N1.out.2.1 (fun e => own_ne HL4.out.seen Bi4.out (by decide) e.symm)); have HS5 := Aside0.mk (HS4.out.kept (Kp.of_grown hg (Kp.refl _ (fun k => k = gi)) (fun k e => .inl (Option.some.inj e).symm)) (fun k hk => by rw [hk]; exact N1.out.2.2)); have Bi5 := Aside0.mk (hbox); have d0 : w5.cell? ⟨gi, 0, none⟩ = some (.int .i64 fa) := blk_cell hbox 0; clear hbox hg)
    | ((with_reducible refine gate_dst (N := 43) rfl ?_); refine wpList_load_row rfl 57 (.tmp 11) (by kernel_rfl) gi (by kernel_rfl) _ _ _ _ Bi5.out hu25.out rfl sizeInode ?_)
    | (go_at_call 35; refine (rptr_own fa fk fs fl f0 f1 f2 f3 f4 f5 fp _).mono ?_; rintro e w6 ⟨A6, c6, rfl, ho, hb⟩; have HK6 := Aside0.mk (HK5.out.below hb); have HL6 := Aside0.mk (HL5.out.below hb); have HS6 := Aside0.mk (HS5.out.below hb); have Bi6 := Aside0.mk (blk_below Bi5.out hb); have R6a := Aside0.mk (And.intro (own_reads' ho) (filt_range HDR.out)); have HD6 := Aside0.mk (show ∀ ad, A6 = some ad → 0 < (filt [f0, f1, f2, f3, f4, f5, fp]).length → ¬ SS gl gv s1 ad.block from fun ad he _ => HL5.out.away (own_new ho ad he)); clear ho hb d0)
    | (have hz := HL6.out; clear hz; go_at_call 34; refine (rall_any w6 gl gv n Bb K N S s1 l1 v1 A6 _ c6 (filt [f0, f1, f2, f3, f4, f5, fp]) HL6.out HC.out.fK HC.out.fS HC.out.fn HMI.out.1 R6a.out.1 HD6.out R6a.out.2 (by have h1 := HMI.out.2; have h2 := HC.out.ll; have h3 := R6a.out.1.1; have h4 := HFL.out; omega)).mono ?_; rw [HA.out]; rintro e w7 ⟨rfl, s2, hl, hk, ho⟩; have HK7 := Aside0.mk (HK6.out.then_ hk (fun _ h => SS.turn HO1.out h)); have HL7 := Aside0.mk (hl); have HO7 := Aside0.mk (HO1.out.trans ho HK6.out.size); have HS7 := Aside0.mk (HS6.out.kept hk (HL6.out.low HC.out.b1 HC.out.b2)); have Bi7 := Aside0.mk ((hk.block gi (blk_lt Bi6.out) (fun h => h.elim N1.out.1 (fun h => h.elim N1.out.2.1 (fun h => own_ne HL6.out.seen Bi6.out (by decide) h.symm)))).trans Bi6.out); clear hl ho; clear hk; have d5 : w7.cell? ⟨gi, 10, none⟩ = some (.int .u32 fp) := blk_cell Bi7.out 10))
  go_ret
  exact ⟨rfl, ⟨_, HL7.out, HO7.out⟩, HK7.out⟩
set_option maxHeartbeats 4000000 in
set_option maxRecDepth 100000 in
theorem one_7 (w : World) (gl gv n Bb : Nat) (K N S : Int) (sv : Value) (l v : List Int) (SA : Option Addr) (cs : Nat) (bl : List (List Int)) (ino a : Int) (HC : Aside0 (RC w gl gv n Bb K N S sv l v SA cs bl a)) (l1 v1 : List Int) (HM : Aside0 (meetN K S a l v = some (l1, v1))) (b : List Int) (HX : Aside0 (rdN bl a = (b, 0))) (HBY : Aside0 (∀ x ∈ b, 0 ≤ x ∧ x < 256)) (fa fk fs fl f0 f1 f2 f3 f4 f5 fp : Int) (HT : Aside0 (takeR b = (inoCells fa fk fs fl f0 f1 f2 f3 f4 f5 fp, 0))) (hx : (fa != ino) = false) (l2 v2 : List Int) (HA : Aside0 (allN K S (filt [f0, f1, f2, f3, f4, f5, fp]) l1 v1 = some (l2, v2))) (HDR : Aside0 (∀ x ∈ [f0, f1, f2, f3, f4, f5, fp], 0 ≤ x ∧ x < 4294967296)) (hp : (fp == 0) = false) (HFP : Aside0 (0 ≤ fp ∧ fp < 4294967296)) (b2 : List Int) (x2 : Int) (HX2 : Aside0 (rdN bl fp = (b2, x2))) (hx2 : (x2 != 0) = true) :
    Calls Try.prog 23 #[.pointer (some ⟨gl, 0, none⟩), .slice SA bl.length cs, .int .i64 ino, .int .u32 a] w fun e w' => e = .returned (.int .i64 x2) ∧ Kp w w' (SS gl gv sv) := by
  have hu25 := Aside0.mk Try.underlying57
  have HMI := Aside0.mk (show Inv n l1 v1 ∧ l1.length ≤ l.length + 1 from ⟨(meet_inv HC.out.fi HM.out).1, Nat.le_of_eq (meet_inv HC.out.fi HM.out).2⟩)
  have HFL := Aside0.mk (show (filt [f0, f1, f2, f3, f4, f5, fp]).length ≤ 7 from List.length_filter_le _ _)
  go_enter Try.func23, Try.ntmps23
  go_wp2_with (first
    | (have hz := HL7.out; clear hz; go_at_call 22; refine (rread_any w7 Bb SA cs bl fp HS7.out HFP.out HC.out.lb).mono ?_; rw [HX2.out]; rintro e w8 ⟨A8, cA8, rfl, hr, hc, hb⟩; have HK8 := Aside0.mk (HK7.out.below hb); have HL8 := Aside0.mk (HL7.out.below hb); have HS8 := Aside0.mk (HS7.out.below hb); have RA8 := Aside0.mk (hr); have CA8 := Aside0.mk (hc); have Bi8 := Aside0.mk (blk_below Bi7.out hb); clear d5; clear hr hc hb)
    | (go_at_call 32; refine (rmeet_any w gl gv n Bb K N S sv l v a HC.out.fL HC.out.fK HC.out.fS HC.out.fa HC.out.fn HC.out.fi (by have := HC.out.ll; omega)).mono ?_; rw [HM.out]; rintro e w1 ⟨rfl, s1, hl, hk, ho⟩; have HK1 := Aside0.mk (hk); have HL1 := Aside0.mk (hl); have HO1 := Aside0.mk (ho); have HS1 := Aside0.mk (HC.out.fB.kept hk (HC.out.fL.low HC.out.b1 HC.out.b2)); clear hk hl ho)
    | (have hz := HL1.out; clear hz; go_at_call 22; refine (rread_any w1 Bb SA cs bl a HS1.out HC.out.fa HC.out.lb).mono ?_; rw [HX.out]; rintro e w2 ⟨A2, cA2, rfl, hr, hc, hb⟩; have HK2 := Aside0.mk (HK1.out.below hb); have HL2 := Aside0.mk (HL1.out.below hb); have HS2 := Aside0.mk (HS1.out.below hb); have RA2 := Aside0.mk (hr); have CA2 := Aside0.mk (hc); clear hr hc hb)
    | (go_at_call 33; refine (rtake_any A2 b.length cA2 b _ CA2.out RA2.out HBY.out).mono ?_; rw [HT.out]; rintro e w3 ⟨rfl, hb⟩; have HK3 := Aside0.mk (HK2.out.below hb); have HL3 := Aside0.mk (HL2.out.below hb); have HS3 := Aside0.mk (HS2.out.below hb); clear hb)
    | ((with_reducible refine gate_dst (N := 11) rfl ?_); refine box_event ?hg (N := 11) ?hd (cs := inoCells 0 0 0 0 0 0 0 0 0 0 0) (t := 57) ?hr ?_; (case hd => rfl); (case hg => rfl); (case hr => first | (go_simp; done) | (go_simp; rfl) | kernel_rfl); intro gi hg w4 hbox hb; have N1 := Aside0.mk (show gi ≠ gl ∧ gi ≠ gv ∧ Bb ≤ gi from by have h1 := HL3.out.lts; have h2 := HC.out.b1; exact ⟨by omega, by omega, by omega⟩); have G1 := Aside0.mk (show w3.heap.size ≤ gi from Nat.le_of_eq hg.symm); have HK4 := Aside0.mk (HK3.out.below hb); have HL4 := Aside0.mk (HL3.out.below hb); have HS4 := Aside0.mk (HS3.out.below hb); have Bi4 := Aside0.mk (hbox); have KB4 := Aside0.mk (Kp.of_below hb (fun k => k = gi)); clear hg hb hbox)
    | ((with_reducible refine gate_store (t := 57) (p := 11) (v := .tmp 32) rfl ?_); refine ev_store_row (by rfl) 57 (.tmp 11) (.tmp 32) (by rfl) gi (inoCells fa fk fs fl f0 f1 f2 f3 f4 f5 fp) (by kernel_rfl) (by kernel_rfl) 57 _ Bi4.out sizeInode (by rfl) (ino_all _ _ _ _ _ _ _ _ _ _ _) ?_; intro w5 hbox hg; have HK5 := Aside0.mk ((HK3.out.then_ (KB4.out.then_ (Kp.of_grown hg (Kp.refl _ (fun k => k = gi)) (fun k e => .inl (Option.some.inj e).symm)) (fun k hk => .inl hk)) (fun k hk => .inr (by rw [hk]; exact Nat.le_trans HK3.out.size G1.out)))); have HL5 := Aside0.mk (HL4.out.grown hg N1.out.1 N1.out.2.1 (fun e => own_ne HL4.out.seen Bi4.out (by decide) e.symm)); have HS5 := Aside0.mk (HS4.out.kept (Kp.of_grown hg (Kp.refl _ (fun k => k = gi)) (fun k e => .inl (Option.some.inj e).symm)) (fun k hk => by rw [hk]; exact N1.out.2.2)); have Bi5 := Aside0.mk (hbox); have d0 : w5.cell? ⟨gi, 0, none⟩ = some (.int .i64 fa) := blk_cell hbox 0; clear hbox hg)
    | ((with_reducible refine gate_dst (N := 43) rfl ?_); refine wpList_load_row rfl 57 (.tmp 11) (by kernel_rfl) gi (by kernel_rfl) _ _ _ _ Bi5.out hu25.out rfl sizeInode ?_)
    | (go_at_call 35; refine (rptr_own fa fk fs fl f0 f1 f2 f3 f4 f5 fp _).mono ?_; rintro e w6 ⟨A6, c6, rfl, ho, hb⟩; have HK6 := Aside0.mk (HK5.out.below hb); have HL6 := Aside0.mk (HL5.out.below hb); have HS6 := Aside0.mk (HS5.out.below hb); have Bi6 := Aside0.mk (blk_below Bi5.out hb); have R6a := Aside0.mk (And.intro (own_reads' ho) (filt_range HDR.out)); have HD6 := Aside0.mk (show ∀ ad, A6 = some ad → 0 < (filt [f0, f1, f2, f3, f4, f5, fp]).length → ¬ SS gl gv s1 ad.block from fun ad he _ => HL5.out.away (own_new ho ad he)); clear ho hb d0)
    | (have hz := HL6.out; clear hz; go_at_call 34; refine (rall_any w6 gl gv n Bb K N S s1 l1 v1 A6 _ c6 (filt [f0, f1, f2, f3, f4, f5, fp]) HL6.out HC.out.fK HC.out.fS HC.out.fn HMI.out.1 R6a.out.1 HD6.out R6a.out.2 (by have h1 := HMI.out.2; have h2 := HC.out.ll; have h3 := R6a.out.1.1; have h4 := HFL.out; omega)).mono ?_; rw [HA.out]; rintro e w7 ⟨rfl, s2, hl, hk, ho⟩; have HK7 := Aside0.mk (HK6.out.then_ hk (fun _ h => SS.turn HO1.out h)); have HL7 := Aside0.mk (hl); have HO7 := Aside0.mk (HO1.out.trans ho HK6.out.size); have HS7 := Aside0.mk (HS6.out.kept hk (HL6.out.low HC.out.b1 HC.out.b2)); have Bi7 := Aside0.mk ((hk.block gi (blk_lt Bi6.out) (fun h => h.elim N1.out.1 (fun h => h.elim N1.out.2.1 (fun h => own_ne HL6.out.seen Bi6.out (by decide) h.symm)))).trans Bi6.out); clear hl ho; clear hk; have d5 : w7.cell? ⟨gi, 10, none⟩ = some (.int .u32 fp) := blk_cell Bi7.out 10))
  go_ret
  exact ⟨rfl, HK8.out⟩
set_option maxHeartbeats 4000000 in
set_option maxRecDepth 100000 in
theorem one_8 (w : World) (gl gv n Bb : Nat) (K N S : Int) (sv : Value) (l v : List Int) (SA : Option Addr) (cs : Nat) (bl : List (List Int)) (ino a : Int) (HC : Aside0 (RC w gl gv n Bb K N S sv l v SA cs bl a)) (l1 v1 : List Int) (HM : Aside0 (meetN K S a l v = some (l1, v1))) (b : List Int) (HX : Aside0 (rdN bl a = (b, 0))) (HBY : Aside0 (∀ x ∈ b, 0 ≤ x ∧ x < 256)) (fa fk fs fl f0 f1 f2 f3 f4 f5 fp : Int) (HT : Aside0 (takeR b = (inoCells fa fk fs fl f0 f1 f2 f3 f4 f5 fp, 0))) (hx : (fa != ino) = false) (l2 v2 : List Int) (HA : Aside0 (allN K S (filt [f0, f1, f2, f3, f4, f5, fp]) l1 v1 = some (l2, v2))) (HDR : Aside0 (∀ x ∈ [f0, f1, f2, f3, f4, f5, fp], 0 ≤ x ∧ x < 4294967296)) (hp : (fp == 0) = false) (HFP : Aside0 (0 ≤ fp ∧ fp < 4294967296)) (b2 : List Int) (HX2 : Aside0 (rdN bl fp = (b2, 0))) (HNL : Aside0 (b2.length ≠ 112)) :
    Calls Try.prog 23 #[.pointer (some ⟨gl, 0, none⟩), .slice SA bl.length cs, .int .i64 ino, .int .u32 a] w fun e w' => e = .returned (.int .i64 5) ∧ Kp w w' (SS gl gv sv) := by
  have hu25 := Aside0.mk Try.underlying57
  have HMI := Aside0.mk (show Inv n l1 v1 ∧ l1.length ≤ l.length + 1 from ⟨(meet_inv HC.out.fi HM.out).1, Nat.le_of_eq (meet_inv HC.out.fi HM.out).2⟩)
  have HFL := Aside0.mk (show (filt [f0, f1, f2, f3, f4, f5, fp]).length ≤ 7 from List.length_filter_le _ _)
  go_enter Try.func23, Try.ntmps23
  go_wp2_with (first
    | (have hz := HL7.out; clear hz; go_at_call 22; refine (rread_any w7 Bb SA cs bl fp HS7.out HFP.out HC.out.lb).mono ?_; rw [HX2.out]; rintro e w8 ⟨A8, cA8, rfl, hr, hc, hb⟩; have HK8 := Aside0.mk (HK7.out.below hb); have HL8 := Aside0.mk (HL7.out.below hb); have HS8 := Aside0.mk (HS7.out.below hb); have RA8 := Aside0.mk (hr); have CA8 := Aside0.mk (hc); have Bi8 := Aside0.mk (blk_below Bi7.out hb); clear d5; clear hr hc hb)
    | (go_at_call 32; refine (rmeet_any w gl gv n Bb K N S sv l v a HC.out.fL HC.out.fK HC.out.fS HC.out.fa HC.out.fn HC.out.fi (by have := HC.out.ll; omega)).mono ?_; rw [HM.out]; rintro e w1 ⟨rfl, s1, hl, hk, ho⟩; have HK1 := Aside0.mk (hk); have HL1 := Aside0.mk (hl); have HO1 := Aside0.mk (ho); have HS1 := Aside0.mk (HC.out.fB.kept hk (HC.out.fL.low HC.out.b1 HC.out.b2)); clear hk hl ho)
    | (have hz := HL1.out; clear hz; go_at_call 22; refine (rread_any w1 Bb SA cs bl a HS1.out HC.out.fa HC.out.lb).mono ?_; rw [HX.out]; rintro e w2 ⟨A2, cA2, rfl, hr, hc, hb⟩; have HK2 := Aside0.mk (HK1.out.below hb); have HL2 := Aside0.mk (HL1.out.below hb); have HS2 := Aside0.mk (HS1.out.below hb); have RA2 := Aside0.mk (hr); have CA2 := Aside0.mk (hc); clear hr hc hb)
    | (go_at_call 33; refine (rtake_any A2 b.length cA2 b _ CA2.out RA2.out HBY.out).mono ?_; rw [HT.out]; rintro e w3 ⟨rfl, hb⟩; have HK3 := Aside0.mk (HK2.out.below hb); have HL3 := Aside0.mk (HL2.out.below hb); have HS3 := Aside0.mk (HS2.out.below hb); clear hb)
    | ((with_reducible refine gate_dst (N := 11) rfl ?_); refine box_event ?hg (N := 11) ?hd (cs := inoCells 0 0 0 0 0 0 0 0 0 0 0) (t := 57) ?hr ?_; (case hd => rfl); (case hg => rfl); (case hr => first | (go_simp; done) | (go_simp; rfl) | kernel_rfl); intro gi hg w4 hbox hb; have N1 := Aside0.mk (show gi ≠ gl ∧ gi ≠ gv ∧ Bb ≤ gi from by have h1 := HL3.out.lts; have h2 := HC.out.b1; exact ⟨by omega, by omega, by omega⟩); have G1 := Aside0.mk (show w3.heap.size ≤ gi from Nat.le_of_eq hg.symm); have HK4 := Aside0.mk (HK3.out.below hb); have HL4 := Aside0.mk (HL3.out.below hb); have HS4 := Aside0.mk (HS3.out.below hb); have Bi4 := Aside0.mk (hbox); have KB4 := Aside0.mk (Kp.of_below hb (fun k => k = gi)); clear hg hb hbox)
    | ((with_reducible refine gate_store (t := 57) (p := 11) (v := .tmp 32) rfl ?_); refine ev_store_row (by rfl) 57 (.tmp 11) (.tmp 32) (by rfl) gi (inoCells fa fk fs fl f0 f1 f2 f3 f4 f5 fp) (by kernel_rfl) (by kernel_rfl) 57 _ Bi4.out sizeInode (by rfl) (ino_all _ _ _ _ _ _ _ _ _ _ _) ?_; intro w5 hbox hg; have HK5 := Aside0.mk ((HK3.out.then_ (KB4.out.then_ (Kp.of_grown hg (Kp.refl _ (fun k => k = gi)) (fun k e => .inl (Option.some.inj e).symm)) (fun k hk => .inl hk)) (fun k hk => .inr (by rw [hk]; exact Nat.le_trans HK3.out.size G1.out)))); have HL5 := Aside0.mk (HL4.out.grown hg N1.out.1 N1.out.2.1 (fun e => own_ne HL4.out.seen Bi4.out (by decide) e.symm)); have HS5 := Aside0.mk (HS4.out.kept (Kp.of_grown hg (Kp.refl _ (fun k => k = gi)) (fun k e => .inl (Option.some.inj e).symm)) (fun k hk => by rw [hk]; exact N1.out.2.2)); have Bi5 := Aside0.mk (hbox); have d0 : w5.cell? ⟨gi, 0, none⟩ = some (.int .i64 fa) := blk_cell hbox 0; clear hbox hg)
    | ((with_reducible refine gate_dst (N := 43) rfl ?_); refine wpList_load_row rfl 57 (.tmp 11) (by kernel_rfl) gi (by kernel_rfl) _ _ _ _ Bi5.out hu25.out rfl sizeInode ?_)
    | (go_at_call 35; refine (rptr_own fa fk fs fl f0 f1 f2 f3 f4 f5 fp _).mono ?_; rintro e w6 ⟨A6, c6, rfl, ho, hb⟩; have HK6 := Aside0.mk (HK5.out.below hb); have HL6 := Aside0.mk (HL5.out.below hb); have HS6 := Aside0.mk (HS5.out.below hb); have Bi6 := Aside0.mk (blk_below Bi5.out hb); have R6a := Aside0.mk (And.intro (own_reads' ho) (filt_range HDR.out)); have HD6 := Aside0.mk (show ∀ ad, A6 = some ad → 0 < (filt [f0, f1, f2, f3, f4, f5, fp]).length → ¬ SS gl gv s1 ad.block from fun ad he _ => HL5.out.away (own_new ho ad he)); clear ho hb d0)
    | (have hz := HL6.out; clear hz; go_at_call 34; refine (rall_any w6 gl gv n Bb K N S s1 l1 v1 A6 _ c6 (filt [f0, f1, f2, f3, f4, f5, fp]) HL6.out HC.out.fK HC.out.fS HC.out.fn HMI.out.1 R6a.out.1 HD6.out R6a.out.2 (by have h1 := HMI.out.2; have h2 := HC.out.ll; have h3 := R6a.out.1.1; have h4 := HFL.out; omega)).mono ?_; rw [HA.out]; rintro e w7 ⟨rfl, s2, hl, hk, ho⟩; have HK7 := Aside0.mk (HK6.out.then_ hk (fun _ h => SS.turn HO1.out h)); have HL7 := Aside0.mk (hl); have HO7 := Aside0.mk (HO1.out.trans ho HK6.out.size); have HS7 := Aside0.mk (HS6.out.kept hk (HL6.out.low HC.out.b1 HC.out.b2)); have Bi7 := Aside0.mk ((hk.block gi (blk_lt Bi6.out) (fun h => h.elim N1.out.1 (fun h => h.elim N1.out.2.1 (fun h => own_ne HL6.out.seen Bi6.out (by decide) h.symm)))).trans Bi6.out); clear hl ho; clear hk; have d5 : w7.cell? ⟨gi, 10, none⟩ = some (.int .u32 fp) := blk_cell Bi7.out 10)
    | (go_at_call 36; refine (r13_no A8 b2.length cA8 b2 _ RA8.out CA8.out HNL.out).mono ?_; rintro e w9 ⟨x9, v9, hx9, rfl, hb⟩; have hx9b : (x9 != 0) = true := bne_iff_ne.2 hx9; have HK9 := Aside0.mk (HK8.out.below hb); clear hb))
  go_ret
  exact ⟨rfl, HK9.out⟩
set_option maxHeartbeats 4000000 in
set_option maxRecDepth 100000 in
theorem one_9 (w : World) (gl gv n Bb : Nat) (K N S : Int) (sv : Value) (l v : List Int) (SA : Option Addr) (cs : Nat) (bl : List (List Int)) (ino a : Int) (HC : Aside0 (RC w gl gv n Bb K N S sv l v SA cs bl a)) (l1 v1 : List Int) (HM : Aside0 (meetN K S a l v = some (l1, v1))) (b : List Int) (HX : Aside0 (rdN bl a = (b, 0))) (HBY : Aside0 (∀ x ∈ b, 0 ≤ x ∧ x < 256)) (fa fk fs fl f0 f1 f2 f3 f4 f5 fp : Int) (HT : Aside0 (takeR b = (inoCells fa fk fs fl f0 f1 f2 f3 f4 f5 fp, 0))) (hx : (fa != ino) = false) (l2 v2 : List Int) (HA : Aside0 (allN K S (filt [f0, f1, f2, f3, f4, f5, fp]) l1 v1 = some (l2, v2))) (HDR : Aside0 (∀ x ∈ [f0, f1, f2, f3, f4, f5, fp], 0 ≤ x ∧ x < 4294967296)) (hp : (fp == 0) = false) (HFP : Aside0 (0 ≤ fp ∧ fp < 4294967296)) (b2 : List Int) (HX2 : Aside0 (rdN bl fp = (b2, 0))) (HNL : Aside0 (b2.length = 112)) (HBY2 : Aside0 (∀ x ∈ b2, 0 ≤ x ∧ x < 256)) (m : Nat) (hm : blk fs = (m : Int) + 6) (hm1 : 1 ≤ m) (hm2 : m ≤ 28) (hfs : fs ≤ 9223372036854775807) (HA2 : Aside0 (allN K S ((words b2).take m) l2 v2 = none)) :
    Calls Try.prog 23 #[.pointer (some ⟨gl, 0, none⟩), .slice SA bl.length cs, .int .i64 ino, .int .u32 a] w fun e w' => e = .returned (.int .i64 5) ∧ Kp w w' (SS gl gv sv) := by
  have hu25 := Aside0.mk Try.underlying57
  have HMI := Aside0.mk (show Inv n l1 v1 ∧ l1.length ≤ l.length + 1 from ⟨(meet_inv HC.out.fi HM.out).1, Nat.le_of_eq (meet_inv HC.out.fi HM.out).2⟩)
  have HFL := Aside0.mk (show (filt [f0, f1, f2, f3, f4, f5, fp]).length ≤ 7 from List.length_filter_le _ _)
  have HM2 := Aside0.mk hm2
  have HBK := Aside0.mk hm
  have HFS := Aside0.mk hfs
  have HAI := Aside0.mk (all_inv (filt [f0, f1, f2, f3, f4, f5, fp]) HMI.out.1 HA.out)
  have hmi : (m : Int) ≤ 28 := by omega
  have hmi0 : (0 : Int) ≤ (m : Int) := Int.natCast_nonneg _
  have HWL := Aside0.mk (show ((words b2).take m).length = m by rw [List.length_take, words_length]; omega)
  clear hm hfs
  have HAI2 := Aside0.mk (And.intro HAI.out.1 (show l2.length ≤ l.length + 8 from by have h1 := HAI.out.2; have h2 := HMI.out.2; have h3 := HFL.out; omega))
  go_enter Try.func23, Try.ntmps23
  go_wp2_with (first
    | (have hz := HL10.out; clear hz; go_at_call 34; refine (rall_any w10 gl gv n Bb K N S s2 l2 v2 A9 _ c9 ((words b2).take m) HL10.out HC.out.fK HC.out.fS HC.out.fn HAI2.out.1 R10.out.1 HD9.out R10.out.2 (by have h1 := HAI2.out.2; have h2 := HC.out.ll; have h3 := R10.out.1.1; have h4 := HWL.out; omega)).mono ?_; rw [HA2.out]; rintro e w11 ⟨rfl, hk⟩; have HK11 := Aside0.mk (HK10.out.then_ hk (fun _ h => SS.turn HO7.out h)); clear hk)
    | (have hz := HL7.out; clear hz; go_at_call 22; refine (rread_any w7 Bb SA cs bl fp HS7.out HFP.out HC.out.lb).mono ?_; rw [HX2.out]; rintro e w8 ⟨A8, cA8, rfl, hr, hc, hb⟩; have HK8 := Aside0.mk (HK7.out.below hb); have HL8 := Aside0.mk (HL7.out.below hb); have HS8 := Aside0.mk (HS7.out.below hb); have RA8 := Aside0.mk (hr); have CA8 := Aside0.mk (hc); have Bi8 := Aside0.mk (blk_below Bi7.out hb); clear d5; clear hr hc hb)
    | (go_at_call 32; refine (rmeet_any w gl gv n Bb K N S sv l v a HC.out.fL HC.out.fK HC.out.fS HC.out.fa HC.out.fn HC.out.fi (by have := HC.out.ll; omega)).mono ?_; rw [HM.out]; rintro e w1 ⟨rfl, s1, hl, hk, ho⟩; have HK1 := Aside0.mk (hk); have HL1 := Aside0.mk (hl); have HO1 := Aside0.mk (ho); have HS1 := Aside0.mk (HC.out.fB.kept hk (HC.out.fL.low HC.out.b1 HC.out.b2)); clear hk hl ho)
    | (have hz := HL1.out; clear hz; go_at_call 22; refine (rread_any w1 Bb SA cs bl a HS1.out HC.out.fa HC.out.lb).mono ?_; rw [HX.out]; rintro e w2 ⟨A2, cA2, rfl, hr, hc, hb⟩; have HK2 := Aside0.mk (HK1.out.below hb); have HL2 := Aside0.mk (HL1.out.below hb); have HS2 := Aside0.mk (HS1.out.below hb); have RA2 := Aside0.mk (hr); have CA2 := Aside0.mk (hc); clear hr hc hb)
    | (go_at_call 33; refine (rtake_any A2 b.length cA2 b _ CA2.out RA2.out HBY.out).mono ?_; rw [HT.out]; rintro e w3 ⟨rfl, hb⟩; have HK3 := Aside0.mk (HK2.out.below hb); have HL3 := Aside0.mk (HL2.out.below hb); have HS3 := Aside0.mk (HS2.out.below hb); clear hb)
    | ((with_reducible refine gate_dst (N := 11) rfl ?_); refine box_event ?hg (N := 11) ?hd (cs := inoCells 0 0 0 0 0 0 0 0 0 0 0) (t := 57) ?hr ?_; (case hd => rfl); (case hg => rfl); (case hr => first | (go_simp; done) | (go_simp; rfl) | kernel_rfl); intro gi hg w4 hbox hb; have N1 := Aside0.mk (show gi ≠ gl ∧ gi ≠ gv ∧ Bb ≤ gi from by have h1 := HL3.out.lts; have h2 := HC.out.b1; exact ⟨by omega, by omega, by omega⟩); have G1 := Aside0.mk (show w3.heap.size ≤ gi from Nat.le_of_eq hg.symm); have HK4 := Aside0.mk (HK3.out.below hb); have HL4 := Aside0.mk (HL3.out.below hb); have HS4 := Aside0.mk (HS3.out.below hb); have Bi4 := Aside0.mk (hbox); have KB4 := Aside0.mk (Kp.of_below hb (fun k => k = gi)); clear hg hb hbox)
    | ((with_reducible refine gate_store (t := 57) (p := 11) (v := .tmp 32) rfl ?_); refine ev_store_row (by rfl) 57 (.tmp 11) (.tmp 32) (by rfl) gi (inoCells fa fk fs fl f0 f1 f2 f3 f4 f5 fp) (by kernel_rfl) (by kernel_rfl) 57 _ Bi4.out sizeInode (by rfl) (ino_all _ _ _ _ _ _ _ _ _ _ _) ?_; intro w5 hbox hg; have HK5 := Aside0.mk ((HK3.out.then_ (KB4.out.then_ (Kp.of_grown hg (Kp.refl _ (fun k => k = gi)) (fun k e => .inl (Option.some.inj e).symm)) (fun k hk => .inl hk)) (fun k hk => .inr (by rw [hk]; exact Nat.le_trans HK3.out.size G1.out)))); have HL5 := Aside0.mk (HL4.out.grown hg N1.out.1 N1.out.2.1 (fun e => own_ne HL4.out.seen Bi4.out (by decide) e.symm)); have HS5 := Aside0.mk (HS4.out.kept (Kp.of_grown hg (Kp.refl _ (fun k => k = gi)) (fun k e => .inl (Option.some.inj e).symm)) (fun k hk => by rw [hk]; exact N1.out.2.2)); have Bi5 := Aside0.mk (hbox); have d0 : w5.cell? ⟨gi, 0, none⟩ = some (.int .i64 fa) := blk_cell hbox 0; clear hbox hg)
    | ((with_reducible refine gate_dst (N := 43) rfl ?_); refine wpList_load_row rfl 57 (.tmp 11) (by kernel_rfl) gi (by kernel_rfl) _ _ _ _ Bi5.out hu25.out rfl sizeInode ?_)
    | (go_at_call 35; refine (rptr_own fa fk fs fl f0 f1 f2 f3 f4 f5 fp _).mono ?_; rintro e w6 ⟨A6, c6, rfl, ho, hb⟩; have HK6 := Aside0.mk (HK5.out.below hb); have HL6 := Aside0.mk (HL5.out.below hb); have HS6 := Aside0.mk (HS5.out.below hb); have Bi6 := Aside0.mk (blk_below Bi5.out hb); have R6a := Aside0.mk (And.intro (own_reads' ho) (filt_range HDR.out)); have HD6 := Aside0.mk (show ∀ ad, A6 = some ad → 0 < (filt [f0, f1, f2, f3, f4, f5, fp]).length → ¬ SS gl gv s1 ad.block from fun ad he _ => HL5.out.away (own_new ho ad he)); clear ho hb d0)
    | (have hz := HL6.out; clear hz; go_at_call 34; refine (rall_any w6 gl gv n Bb K N S s1 l1 v1 A6 _ c6 (filt [f0, f1, f2, f3, f4, f5, fp]) HL6.out HC.out.fK HC.out.fS HC.out.fn HMI.out.1 R6a.out.1 HD6.out R6a.out.2 (by have h1 := HMI.out.2; have h2 := HC.out.ll; have h3 := R6a.out.1.1; have h4 := HFL.out; omega)).mono ?_; rw [HA.out]; rintro e w7 ⟨rfl, s2, hl, hk, ho⟩; have HK7 := Aside0.mk (HK6.out.then_ hk (fun _ h => SS.turn HO1.out h)); have HL7 := Aside0.mk (hl); have HO7 := Aside0.mk (HO1.out.trans ho HK6.out.size); have HS7 := Aside0.mk (HS6.out.kept hk (HL6.out.low HC.out.b1 HC.out.b2)); have Bi7 := Aside0.mk ((hk.block gi (blk_lt Bi6.out) (fun h => h.elim N1.out.1 (fun h => h.elim N1.out.2.1 (fun h => own_ne HL6.out.seen Bi6.out (by decide) h.symm)))).trans Bi6.out); clear hl ho; clear hk; have d5 : w7.cell? ⟨gi, 10, none⟩ = some (.int .u32 fp) := blk_cell Bi7.out 10)
    | (go_at_call 36; refine (r13_yes A8 b2.length cA8 b2 _ RA8.out CA8.out HNL.out HBY2.out).mono ?_; rintro e w9 ⟨A9, c9, rfl, hr9, hc9, hd9, hb⟩; have HK9 := Aside0.mk (HK8.out.below hb); have HL9 := Aside0.mk (HL8.out.below hb); have HS9 := Aside0.mk (HS8.out.below hb); have Bi9 := Aside0.mk (blk_below Bi8.out hb); have R9 := Aside0.mk (show ReadsInt w9 .u32 A9 m ((words b2).take m) ∧ ∀ x ∈ (words b2).take m, 0 ≤ x ∧ x < 4294967296 from ⟨reads_prefix hr9 HM2.out, fun x hx => words_range (getD_b HBY2.out) x (List.mem_of_mem_take hx)⟩); have HD9 := Aside0.mk (show ∀ ad, A9 = some ad → 0 < m → ¬ SS gl gv s2 ad.block from fun ad he _ => HL8.out.away (hd9 ad he)); have hc9' : m ≤ c9 := (by omega); have hc9i : (m : Int) ≤ (c9 : Int) := (by omega); have d2 : w9.cell? ⟨gi, 2, none⟩ = some (.int .i64 fs) := blk_cell Bi9.out 2; clear hb hr9 hd9)
    | (go_at_call 37; refine (refBlocks_any fs _ HFS.out).mono ?_; rw [HBK.out]; rintro e w10 ⟨rfl, hd⟩; have hb := hd.below; have HK10 := Aside0.mk (HK9.out.below hb); have HL10 := Aside0.mk (HL9.out.below hb); have HS10 := Aside0.mk (HS9.out.below hb); have Bi10 := Aside0.mk (blk_below Bi9.out hb); have R10 := Aside0.mk (And.intro (R9.out.1.below hb) R9.out.2); clear hb hd d2))
  go_ret
  exact ⟨rfl, HK11.out⟩
set_option maxHeartbeats 4000000 in
set_option maxRecDepth 100000 in
theorem one_10 (w : World) (gl gv n Bb : Nat) (K N S : Int) (sv : Value) (l v : List Int) (SA : Option Addr) (cs : Nat) (bl : List (List Int)) (ino a : Int) (HC : Aside0 (RC w gl gv n Bb K N S sv l v SA cs bl a)) (l1 v1 : List Int) (HM : Aside0 (meetN K S a l v = some (l1, v1))) (b : List Int) (HX : Aside0 (rdN bl a = (b, 0))) (HBY : Aside0 (∀ x ∈ b, 0 ≤ x ∧ x < 256)) (fa fk fs fl f0 f1 f2 f3 f4 f5 fp : Int) (HT : Aside0 (takeR b = (inoCells fa fk fs fl f0 f1 f2 f3 f4 f5 fp, 0))) (hx : (fa != ino) = false) (l2 v2 : List Int) (HA : Aside0 (allN K S (filt [f0, f1, f2, f3, f4, f5, fp]) l1 v1 = some (l2, v2))) (HDR : Aside0 (∀ x ∈ [f0, f1, f2, f3, f4, f5, fp], 0 ≤ x ∧ x < 4294967296)) (hp : (fp == 0) = false) (HFP : Aside0 (0 ≤ fp ∧ fp < 4294967296)) (b2 : List Int) (HX2 : Aside0 (rdN bl fp = (b2, 0))) (HNL : Aside0 (b2.length = 112)) (HBY2 : Aside0 (∀ x ∈ b2, 0 ≤ x ∧ x < 256)) (m : Nat) (hm : blk fs = (m : Int) + 6) (hm1 : 1 ≤ m) (hm2 : m ≤ 28) (hfs : fs ≤ 9223372036854775807) (l3 v3 : List Int) (HA2 : Aside0 (allN K S ((words b2).take m) l2 v2 = some (l3, v3))) :
    Calls Try.prog 23 #[.pointer (some ⟨gl, 0, none⟩), .slice SA bl.length cs, .int .i64 ino, .int .u32 a] w fun e w' => e = .returned (.int .i64 0) ∧ (∃ sv', RL w' gl gv n Bb K N S sv' l3.reverse v3 ∧ OwnB w sv sv') ∧ Kp w w' (SS gl gv sv) := by
  have hu25 := Aside0.mk Try.underlying57
  have HMI := Aside0.mk (show Inv n l1 v1 ∧ l1.length ≤ l.length + 1 from ⟨(meet_inv HC.out.fi HM.out).1, Nat.le_of_eq (meet_inv HC.out.fi HM.out).2⟩)
  have HFL := Aside0.mk (show (filt [f0, f1, f2, f3, f4, f5, fp]).length ≤ 7 from List.length_filter_le _ _)
  have HM2 := Aside0.mk hm2
  have HBK := Aside0.mk hm
  have HFS := Aside0.mk hfs
  have HAI := Aside0.mk (all_inv (filt [f0, f1, f2, f3, f4, f5, fp]) HMI.out.1 HA.out)
  have hmi : (m : Int) ≤ 28 := by omega
  have hmi0 : (0 : Int) ≤ (m : Int) := Int.natCast_nonneg _
  have HWL := Aside0.mk (show ((words b2).take m).length = m by rw [List.length_take, words_length]; omega)
  clear hm hfs
  have HAI2 := Aside0.mk (And.intro HAI.out.1 (show l2.length ≤ l.length + 8 from by have h1 := HAI.out.2; have h2 := HMI.out.2; have h3 := HFL.out; omega))
  go_enter Try.func23, Try.ntmps23
  go_wp2_with (first
    | (have hz := HL10.out; clear hz; go_at_call 34; refine (rall_any w10 gl gv n Bb K N S s2 l2 v2 A9 _ c9 ((words b2).take m) HL10.out HC.out.fK HC.out.fS HC.out.fn HAI2.out.1 R10.out.1 HD9.out R10.out.2 (by have h1 := HAI2.out.2; have h2 := HC.out.ll; have h3 := R10.out.1.1; have h4 := HWL.out; omega)).mono ?_; rw [HA2.out]; rintro e w11 ⟨rfl, s3, hl, hk, ho⟩; have HK11 := Aside0.mk (HK10.out.then_ hk (fun _ h => SS.turn HO7.out h)); have HL11 := Aside0.mk (hl); have HO11 := Aside0.mk (HO7.out.trans ho HK10.out.size); have HS11 := Aside0.mk (HS10.out.kept hk (HL10.out.low HC.out.b1 HC.out.b2)); have Bi11 := Aside0.mk ((hk.block gi (blk_lt Bi10.out) (fun h => h.elim N1.out.1 (fun h => h.elim N1.out.2.1 (fun h => own_ne HL10.out.seen Bi10.out (by decide) h.symm)))).trans Bi10.out); clear hl ho; clear hk)
    | (have hz := HL7.out; clear hz; go_at_call 22; refine (rread_any w7 Bb SA cs bl fp HS7.out HFP.out HC.out.lb).mono ?_; rw [HX2.out]; rintro e w8 ⟨A8, cA8, rfl, hr, hc, hb⟩; have HK8 := Aside0.mk (HK7.out.below hb); have HL8 := Aside0.mk (HL7.out.below hb); have HS8 := Aside0.mk (HS7.out.below hb); have RA8 := Aside0.mk (hr); have CA8 := Aside0.mk (hc); have Bi8 := Aside0.mk (blk_below Bi7.out hb); clear d5; clear hr hc hb)
    | (go_at_call 32; refine (rmeet_any w gl gv n Bb K N S sv l v a HC.out.fL HC.out.fK HC.out.fS HC.out.fa HC.out.fn HC.out.fi (by have := HC.out.ll; omega)).mono ?_; rw [HM.out]; rintro e w1 ⟨rfl, s1, hl, hk, ho⟩; have HK1 := Aside0.mk (hk); have HL1 := Aside0.mk (hl); have HO1 := Aside0.mk (ho); have HS1 := Aside0.mk (HC.out.fB.kept hk (HC.out.fL.low HC.out.b1 HC.out.b2)); clear hk hl ho)
    | (have hz := HL1.out; clear hz; go_at_call 22; refine (rread_any w1 Bb SA cs bl a HS1.out HC.out.fa HC.out.lb).mono ?_; rw [HX.out]; rintro e w2 ⟨A2, cA2, rfl, hr, hc, hb⟩; have HK2 := Aside0.mk (HK1.out.below hb); have HL2 := Aside0.mk (HL1.out.below hb); have HS2 := Aside0.mk (HS1.out.below hb); have RA2 := Aside0.mk (hr); have CA2 := Aside0.mk (hc); clear hr hc hb)
    | (go_at_call 33; refine (rtake_any A2 b.length cA2 b _ CA2.out RA2.out HBY.out).mono ?_; rw [HT.out]; rintro e w3 ⟨rfl, hb⟩; have HK3 := Aside0.mk (HK2.out.below hb); have HL3 := Aside0.mk (HL2.out.below hb); have HS3 := Aside0.mk (HS2.out.below hb); clear hb)
    | ((with_reducible refine gate_dst (N := 11) rfl ?_); refine box_event ?hg (N := 11) ?hd (cs := inoCells 0 0 0 0 0 0 0 0 0 0 0) (t := 57) ?hr ?_; (case hd => rfl); (case hg => rfl); (case hr => first | (go_simp; done) | (go_simp; rfl) | kernel_rfl); intro gi hg w4 hbox hb; have N1 := Aside0.mk (show gi ≠ gl ∧ gi ≠ gv ∧ Bb ≤ gi from by have h1 := HL3.out.lts; have h2 := HC.out.b1; exact ⟨by omega, by omega, by omega⟩); have G1 := Aside0.mk (show w3.heap.size ≤ gi from Nat.le_of_eq hg.symm); have HK4 := Aside0.mk (HK3.out.below hb); have HL4 := Aside0.mk (HL3.out.below hb); have HS4 := Aside0.mk (HS3.out.below hb); have Bi4 := Aside0.mk (hbox); have KB4 := Aside0.mk (Kp.of_below hb (fun k => k = gi)); clear hg hb hbox)
    | ((with_reducible refine gate_store (t := 57) (p := 11) (v := .tmp 32) rfl ?_); refine ev_store_row (by rfl) 57 (.tmp 11) (.tmp 32) (by rfl) gi (inoCells fa fk fs fl f0 f1 f2 f3 f4 f5 fp) (by kernel_rfl) (by kernel_rfl) 57 _ Bi4.out sizeInode (by rfl) (ino_all _ _ _ _ _ _ _ _ _ _ _) ?_; intro w5 hbox hg; have HK5 := Aside0.mk ((HK3.out.then_ (KB4.out.then_ (Kp.of_grown hg (Kp.refl _ (fun k => k = gi)) (fun k e => .inl (Option.some.inj e).symm)) (fun k hk => .inl hk)) (fun k hk => .inr (by rw [hk]; exact Nat.le_trans HK3.out.size G1.out)))); have HL5 := Aside0.mk (HL4.out.grown hg N1.out.1 N1.out.2.1 (fun e => own_ne HL4.out.seen Bi4.out (by decide) e.symm)); have HS5 := Aside0.mk (HS4.out.kept (Kp.of_grown hg (Kp.refl _ (fun k => k = gi)) (fun k e => .inl (Option.some.inj e).symm)) (fun k hk => by rw [hk]; exact N1.out.2.2)); have Bi5 := Aside0.mk (hbox); have d0 : w5.cell? ⟨gi, 0, none⟩ = some (.int .i64 fa) := blk_cell hbox 0; clear hbox hg)
    | ((with_reducible refine gate_dst (N := 43) rfl ?_); refine wpList_load_row rfl 57 (.tmp 11) (by kernel_rfl) gi (by kernel_rfl) _ _ _ _ Bi5.out hu25.out rfl sizeInode ?_)
    | (go_at_call 35; refine (rptr_own fa fk fs fl f0 f1 f2 f3 f4 f5 fp _).mono ?_; rintro e w6 ⟨A6, c6, rfl, ho, hb⟩; have HK6 := Aside0.mk (HK5.out.below hb); have HL6 := Aside0.mk (HL5.out.below hb); have HS6 := Aside0.mk (HS5.out.below hb); have Bi6 := Aside0.mk (blk_below Bi5.out hb); have R6a := Aside0.mk (And.intro (own_reads' ho) (filt_range HDR.out)); have HD6 := Aside0.mk (show ∀ ad, A6 = some ad → 0 < (filt [f0, f1, f2, f3, f4, f5, fp]).length → ¬ SS gl gv s1 ad.block from fun ad he _ => HL5.out.away (own_new ho ad he)); clear ho hb d0)
    | (have hz := HL6.out; clear hz; go_at_call 34; refine (rall_any w6 gl gv n Bb K N S s1 l1 v1 A6 _ c6 (filt [f0, f1, f2, f3, f4, f5, fp]) HL6.out HC.out.fK HC.out.fS HC.out.fn HMI.out.1 R6a.out.1 HD6.out R6a.out.2 (by have h1 := HMI.out.2; have h2 := HC.out.ll; have h3 := R6a.out.1.1; have h4 := HFL.out; omega)).mono ?_; rw [HA.out]; rintro e w7 ⟨rfl, s2, hl, hk, ho⟩; have HK7 := Aside0.mk (HK6.out.then_ hk (fun _ h => SS.turn HO1.out h)); have HL7 := Aside0.mk (hl); have HO7 := Aside0.mk (HO1.out.trans ho HK6.out.size); have HS7 := Aside0.mk (HS6.out.kept hk (HL6.out.low HC.out.b1 HC.out.b2)); have Bi7 := Aside0.mk ((hk.block gi (blk_lt Bi6.out) (fun h => h.elim N1.out.1 (fun h => h.elim N1.out.2.1 (fun h => own_ne HL6.out.seen Bi6.out (by decide) h.symm)))).trans Bi6.out); clear hl ho; clear hk; have d5 : w7.cell? ⟨gi, 10, none⟩ = some (.int .u32 fp) := blk_cell Bi7.out 10)
    | (go_at_call 36; refine (r13_yes A8 b2.length cA8 b2 _ RA8.out CA8.out HNL.out HBY2.out).mono ?_; rintro e w9 ⟨A9, c9, rfl, hr9, hc9, hd9, hb⟩; have HK9 := Aside0.mk (HK8.out.below hb); have HL9 := Aside0.mk (HL8.out.below hb); have HS9 := Aside0.mk (HS8.out.below hb); have Bi9 := Aside0.mk (blk_below Bi8.out hb); have R9 := Aside0.mk (show ReadsInt w9 .u32 A9 m ((words b2).take m) ∧ ∀ x ∈ (words b2).take m, 0 ≤ x ∧ x < 4294967296 from ⟨reads_prefix hr9 HM2.out, fun x hx => words_range (getD_b HBY2.out) x (List.mem_of_mem_take hx)⟩); have HD9 := Aside0.mk (show ∀ ad, A9 = some ad → 0 < m → ¬ SS gl gv s2 ad.block from fun ad he _ => HL8.out.away (hd9 ad he)); have hc9' : m ≤ c9 := (by omega); have hc9i : (m : Int) ≤ (c9 : Int) := (by omega); have d2 : w9.cell? ⟨gi, 2, none⟩ = some (.int .i64 fs) := blk_cell Bi9.out 2; clear hb hr9 hd9)
    | (go_at_call 37; refine (refBlocks_any fs _ HFS.out).mono ?_; rw [HBK.out]; rintro e w10 ⟨rfl, hd⟩; have hb := hd.below; have HK10 := Aside0.mk (HK9.out.below hb); have HL10 := Aside0.mk (HL9.out.below hb); have HS10 := Aside0.mk (HS9.out.below hb); have Bi10 := Aside0.mk (blk_below Bi9.out hb); have R10 := Aside0.mk (And.intro (R9.out.1.below hb) R9.out.2); clear hb hd d2))
  go_ret
  exact ⟨rfl, ⟨_, HL11.out, HO11.out⟩, HK11.out⟩
set_option maxHeartbeats 1000000 in
theorem one_any (w : World) (gl gv n Bb : Nat) (K N S : Int) (sv : Value) (l v : List Int) (SA : Option Addr) (cs : Nat) (bl : List (List Int)) (ino a : Int) (hC : RC w gl gv n Bb K N S sv l v SA cs bl a) :
    Calls Try.prog 23 #[.pointer (some ⟨gl, 0, none⟩), .slice SA bl.length cs, .int .i64 ino, .int .u32 a] w (RIPost w gl gv n Bb K N S sv (inoN K S bl ino a l v)) := by
  have H5 : (5 : Int) = 0 → False := by decide
  unfold inoN
  cases hm : meetN K S a l v with
  | none => exact (one_1 w gl gv n Bb K N S sv l v SA cs bl ino a ⟨hC⟩ ⟨hm⟩).mono fun e w' h => ⟨h.1, fun h0 => absurd h0 (by decide), h.2⟩
  | some p1 =>
    obtain ⟨l1, v1⟩ := p1
    have hby := rd_mem (bl := bl) (a := a) (P := fun b => ∀ x ∈ b, 0 ≤ x ∧ x < 256) (by simp) hC.fy
    obtain ⟨b, x, hx⟩ : ∃ b x, rdN bl a = (b, x) := ⟨_, _, rfl⟩
    rw [hx] at hby
    simp only [hx]
    by_cases hx0 : x = 0
    rotate_left
    · rw [if_pos hx0]
      exact (one_2 w gl gv n Bb K N S sv l v SA cs bl ino a ⟨hC⟩ l1 v1 ⟨hm⟩ b x ⟨hx⟩ (bne_iff_ne.2 hx0) hx0).mono fun e w' h => ⟨h.1, fun h0 => absurd h0 hx0, h.2⟩
    · subst hx0
      rw [if_neg (by simp)]
      have hby' : ∀ x ∈ b, 0 ≤ x ∧ x < 256 := hby
      unfold tk
      by_cases ht : (takeR b).2 = 0
      rotate_left
      · obtain ⟨fe, hfe, hT⟩ := takeR_no ht
        rw [if_neg ht]
        exact (one_3 w gl gv n Bb K N S sv l v SA cs bl ino a ⟨hC⟩ l1 v1 ⟨hm⟩ b ⟨hx⟩ ⟨hby'⟩ 0 0 0 0 0 0 0 0 0 0 0 fe ⟨hT⟩ (bne_iff_ne.2 hfe) hfe).mono fun e w' h => ⟨h.1, fun h0 => absurd h0 (by decide), h.2⟩
      · obtain ⟨hT, hM⟩ := takeR_yes ht
        rw [if_pos ht]
        have hs2 : accN (b.drop 4) 2 ≤ 9223372036854775807 := accN2_small (fun x hx => hby' x (List.mem_of_mem_drop hx))
        obtain ⟨fa, h_fa⟩ : ∃ z, accN b 2 = z := ⟨_, rfl⟩
        obtain ⟨fk, h_fk⟩ : ∃ z, accN (b.drop 2) 1 = z := ⟨_, rfl⟩
        obtain ⟨fs, h_fs⟩ : ∃ z, accN (b.drop 4) 2 = z := ⟨_, rfl⟩
        obtain ⟨fl, h_fl⟩ : ∃ z, accN (b.drop 3) 1 = z := ⟨_, rfl⟩
        obtain ⟨f0, h_f0⟩ : ∃ z, accN (b.drop 6) 4 % 4294967296 = z := ⟨_, rfl⟩
        obtain ⟨f1, h_f1⟩ : ∃ z, accN (b.drop 10) 4 % 4294967296 = z := ⟨_, rfl⟩
        obtain ⟨f2, h_f2⟩ : ∃ z, accN (b.drop 14) 4 % 4294967296 = z := ⟨_, rfl⟩
        obtain ⟨f3, h_f3⟩ : ∃ z, accN (b.drop 18) 4 % 4294967296 = z := ⟨_, rfl⟩
        obtain ⟨f4, h_f4⟩ : ∃ z, accN (b.drop 22) 4 % 4294967296 = z := ⟨_, rfl⟩
        obtain ⟨f5, h_f5⟩ : ∃ z, accN (b.drop 26) 4 % 4294967296 = z := ⟨_, rfl⟩
        obtain ⟨fp, h_fp⟩ : ∃ z, accN (b.drop 30) 4 % 4294967296 = z := ⟨_, rfl⟩
        have r4 : ∀ y : Int, 0 ≤ y % 4294967296 ∧ y % 4294967296 < 4294967296 := fun y => by omega
        have r_f0 : 0 ≤ f0 ∧ f0 < 4294967296 := h_f0 ▸ r4 _
        have r_f1 : 0 ≤ f1 ∧ f1 < 4294967296 := h_f1 ▸ r4 _
        have r_f2 : 0 ≤ f2 ∧ f2 < 4294967296 := h_f2 ▸ r4 _
        have r_f3 : 0 ≤ f3 ∧ f3 < 4294967296 := h_f3 ▸ r4 _
        have r_f4 : 0 ≤ f4 ∧ f4 < 4294967296 := h_f4 ▸ r4 _
        have r_f5 : 0 ≤ f5 ∧ f5 < 4294967296 := h_f5 ▸ r4 _
        have r_fp : 0 ≤ fp ∧ fp < 4294967296 := h_fp ▸ r4 _
        rw [h_fa, h_fk, h_fs, h_fl, h_f0, h_f1, h_f2, h_f3, h_f4, h_f5, h_fp] at hT
        rw [h_fa, h_fk, h_fs, h_fl, h_f0, h_f1, h_f2, h_f3, h_f4, h_f5, h_fp] at hM
        rw [h_fs] at hs2
        rw [h_fa, h_fs, h_f0, h_f1, h_f2, h_f3, h_f4, h_f5, h_fp]
        have hDR : ∀ x ∈ [f0, f1, f2, f3, f4, f5, fp], 0 ≤ x ∧ x < 4294967296 := by
          intro x hx
          simp only [List.mem_cons, List.not_mem_nil, or_false] at hx
          rcases hx with rfl | rfl | rfl | rfl | rfl | rfl | rfl <;> assumption
        dsimp only
        by_cases hi : fa = ino
        rotate_left
        · rw [if_pos hi]
          exact (one_4 w gl gv n Bb K N S sv l v SA cs bl ino a ⟨hC⟩ l1 v1 ⟨hm⟩ b ⟨hx⟩ ⟨hby'⟩ fa fk fs fl f0 f1 f2 f3 f4 f5 fp ⟨hT⟩ (bne_iff_ne.2 hi) hi).mono fun e w' h => ⟨h.1, fun h0 => absurd h0 (by decide), h.2⟩
        · rw [if_neg (fun h => h hi)]
          have hib : (fa != ino) = false := bne_eq_false_iff_eq.2 hi
          cases ha : allN K S (filt [f0, f1, f2, f3, f4, f5, fp]) l1 v1 with
          | none => exact (one_5 w gl gv n Bb K N S sv l v SA cs bl ino a ⟨hC⟩ l1 v1 ⟨hm⟩ b ⟨hx⟩ ⟨hby'⟩ fa fk fs fl f0 f1 f2 f3 f4 f5 fp ⟨hT⟩ hib ⟨ha⟩ ⟨hDR⟩).mono fun e w' h => ⟨h.1, fun h0 => absurd h0 (by decide), h.2⟩
          | some p2 =>
            obtain ⟨l2, v2⟩ := p2
            dsimp only
            by_cases hp : fp = 0
            · rw [if_pos hp]
              exact (one_6 w gl gv n Bb K N S sv l v SA cs bl ino a ⟨hC⟩ l1 v1 ⟨hm⟩ b ⟨hx⟩ ⟨hby'⟩ fa fk fs fl f0 f1 f2 f3 f4 f5 fp ⟨hT⟩ hib l2 v2 ⟨ha⟩ ⟨hDR⟩ (beq_iff_eq.2 hp)).mono fun e w' h => ⟨h.1, fun _ => h.2.1, h.2.2⟩
            · rw [if_neg hp]
              have hpb : (fp == 0) = false := beq_eq_false_iff_ne.2 hp
              have hby2 := rd_mem (bl := bl) (a := fp) (P := fun b => (∀ x ∈ b, 0 ≤ x ∧ x < 256) ∧ b.length ≤ 140737488355328) ⟨by simp, Nat.zero_le _⟩ (fun b hb => ⟨hC.fy b hb, hC.fz b hb⟩)
              obtain ⟨b2, x2, hx2⟩ : ∃ b x, rdN bl fp = (b, x) := ⟨_, _, rfl⟩
              rw [hx2] at hby2
              have hby2' : (∀ x ∈ b2, 0 ≤ x ∧ x < 256) ∧ b2.length ≤ 140737488355328 := hby2
              simp only [hx2]
              by_cases hx20 : x2 = 0
              rotate_left
              · rw [if_pos hx20]
                exact (one_7 w gl gv n Bb K N S sv l v SA cs bl ino a ⟨hC⟩ l1 v1 ⟨hm⟩ b ⟨hx⟩ ⟨hby'⟩ fa fk fs fl f0 f1 f2 f3 f4 f5 fp ⟨hT⟩ hib l2 v2 ⟨ha⟩ ⟨hDR⟩ hpb ⟨r_fp⟩ b2 x2 ⟨hx2⟩ (bne_iff_ne.2 hx20)).mono fun e w' h => ⟨h.1, fun h0 => absurd h0 hx20, h.2⟩
              · subst hx20
                rw [if_neg (by simp)]
                by_cases hl2 : b2.length = 112
                rotate_left
                · rw [if_pos hl2]
                  exact (one_8 w gl gv n Bb K N S sv l v SA cs bl ino a ⟨hC⟩ l1 v1 ⟨hm⟩ b ⟨hx⟩ ⟨hby'⟩ fa fk fs fl f0 f1 f2 f3 f4 f5 fp ⟨hT⟩ hib l2 v2 ⟨ha⟩ ⟨hDR⟩ hpb ⟨r_fp⟩ b2 ⟨hx2⟩ ⟨hl2⟩).mono fun e w' h => ⟨h.1, fun h0 => absurd h0 (by decide), h.2⟩
                · rw [if_neg (fun h => h hl2)]
                  obtain ⟨q1, q2⟩ := may_points hM hp
                  obtain ⟨m, hmm⟩ : ∃ m : Nat, blk fs = (m : Int) + 6 := ⟨(blk fs - 6).toNat, by omega⟩
                  have hmn : (blk fs - 6).toNat = m := by omega
                  rw [hmn]
                  cases ha2 : allN K S ((words b2).take m) l2 v2 with
                  | none => exact (one_9 w gl gv n Bb K N S sv l v SA cs bl ino a ⟨hC⟩ l1 v1 ⟨hm⟩ b ⟨hx⟩ ⟨hby'⟩ fa fk fs fl f0 f1 f2 f3 f4 f5 fp ⟨hT⟩ hib l2 v2 ⟨ha⟩ ⟨hDR⟩ hpb ⟨r_fp⟩ b2 ⟨hx2⟩ ⟨hl2⟩ ⟨hby2'.1⟩ m hmm (by omega) (by omega) hs2 ⟨ha2⟩).mono fun e w' h => ⟨h.1, fun h0 => absurd h0 (by decide), h.2⟩
                  | some p3 =>
                    obtain ⟨l3, v3⟩ := p3
                    exact (one_10 w gl gv n Bb K N S sv l v SA cs bl ino a ⟨hC⟩ l1 v1 ⟨hm⟩ b ⟨hx⟩ ⟨hby'⟩ fa fk fs fl f0 f1 f2 f3 f4 f5 fp ⟨hT⟩ hib l2 v2 ⟨ha⟩ ⟨hDR⟩ hpb ⟨r_fp⟩ b2 ⟨hx2⟩ ⟨hl2⟩ ⟨hby2'.1⟩ m hmm (by omega) (by omega) hs2 l3 v3 ⟨ha2⟩).mono fun e w' h => ⟨h.1, fun _ => h.2.1, h.2.2⟩
end Go.Proofs.Ytgiapegacbibeaa.UM
