/- entry.Put: the walk. -/
import Derived.Test.YtneanbckmekdkaaDoorEMay
import Derived.Lib.BufferWrite
namespace Go.Proofs.YtneanbckmekdkaaDoor.EN
open Go Go.RowKit Go.Proofs.YtneanbckmekdkaaDoorX Go.Proofs.YtneanbckmekdkaaDoor.NM Go.Proofs.YtneanbckmekdkaaDoorW.PrintWords Go.Proofs.YtneanbckmekdkaaDoorW.PrintLast Go.Proofs.YtneanbckmekdkaaDoorW.PrintMore Go.Proofs.YtneanbckmekdkaaDoor.PEntryForms
set_option linter.unusedVariables false
set_option linter.unusedSimpArgs false
theorem infoU8 : (Tryd.prog.info? 5).map (fun i => (i.zero, i.size, i.bytes)) = some (some (.int .u8 0), 1, 1) := by kernel_rfl
theorem sizeU8 : (Tryd.prog.info? 5).map (·.size) = some 1 := by kernel_rfl
/-- An entry's bytes. -/
def encE (x : S42) : List Int := [0, x.f0, (x.f1.size : Int)] ++ bytesOf x.f1 ++ List.replicate (25 - x.f1.size) 0
def putL (l : List S42) : List Int := l.flatMap encE
theorem encE_length {x : S42} (h : x.f1.size ≤ 24) : (encE x).length = 28 := by simp [encE, bytesOf_length]; omega
theorem putL_length : ∀ (l : List S42), (∀ x ∈ l, x.f1.size ≤ 24) → (putL l).length = 28 * l.length
  | [], _ => rfl
  | x :: l, h => by
    rw [putL, List.flatMap_cons, List.length_append, encE_length (h x (List.mem_cons_self ..)), List.length_cons]
    have := putL_length l (fun y hy => h y (List.mem_cons_of_mem _ hy))
    rw [putL] at this
    omega
theorem MayP.entry {l : List S42} (h : MayP l) {i : Nat} (hi : i < l.length) : 1 ≤ inoAt l i ∧ inoAt l i ≤ 64 ∧ valid (nameAt l i).data.toList = true ∧ (nameAt l i).size ≤ 24 := by
  have := h.2 i hi
  unfold okAt okIno at this
  simp only [Bool.and_eq_true, decide_eq_true_eq] at this
  exact ⟨this.1.1.1, this.1.1.2, this.1.2, valid_size this.1.2⟩
theorem at_get {l : List S42} {i : Nat} (hi : i < l.length) : inoAt l i = l[i].f0 ∧ nameAt l i = l[i].f1 := by
  unfold inoAt nameAt rd_T42
  have : (i : Int).toNat = i := rfl
  rw [this, List.getD_eq_getElem?_getD, List.getElem?_eq_getElem hi]
  exact ⟨rfl, rfl⟩
theorem MayP.sizes {l : List S42} (h : MayP l) : ∀ x ∈ l, x.f1.size ≤ 24 := by
  intro x hx
  obtain ⟨i, hi, rfl⟩ := List.getElem_of_mem hx
  have := (h.entry hi).2.2.2
  rw [(at_get hi).2] at this
  exact this
/-- The bytes behind j rounds. -/
def bufE (l : List S42) (j : Nat) : List Int := putL (l.take j) ++ List.replicate (28 * (l.length - j)) 0
theorem bufE_zero (l : List S42) : bufE l 0 = List.replicate (28 * l.length) 0 := by simp [bufE, putL]
theorem bufE_end (l : List S42) : bufE l l.length = putL l := by simp [bufE]
theorem bufE_length {l : List S42} (h : ∀ x ∈ l, x.f1.size ≤ 24) {j : Nat} (hj : j ≤ l.length) : (bufE l j).length = 28 * l.length := by
  have h1 := putL_length (l.take j) (fun x hx => h x (List.mem_of_mem_take hx))
  rw [List.length_take] at h1
  simp only [bufE, List.length_append, List.length_replicate, h1]
  omega
/-- A round: three bytes in any order, then the name. -/
def threeE (B : List Int) (o : Nat) (a b c : Int) : List Int := B.take o ++ [a, b, c] ++ B.drop (o + 3)
theorem set3 (B : List Int) (o : Nat) (a b c : Int) (h : o + 3 ≤ B.length) : ((B.set o a).set (o + 1) b).set (o + 2) c = threeE B o a b c := by
  have hB : B = B.take o ++ (B[o]'(by omega) :: B[o + 1]'(by omega) :: B[o + 2]'(by omega) :: B.drop (o + 3)) := by
    conv => lhs; rw [← List.take_append_drop o B]
    rw [List.drop_eq_getElem_cons (by omega), List.drop_eq_getElem_cons (by omega), List.drop_eq_getElem_cons (by omega)]
  unfold threeE
  conv => lhs; rw [hB]
  have hl : (B.take o).length = o := by rw [List.length_take]; omega
  rw [List.set_append_right _ _ (by omega), hl, Nat.sub_self, List.set_cons_zero,
    List.set_append_right _ _ (by omega), hl, show o + 1 - o = 1 by omega, List.set_cons_succ, List.set_cons_zero,
    List.set_append_right _ _ (by omega), hl, show o + 2 - o = 2 by omega, List.set_cons_succ, List.set_cons_succ, List.set_cons_zero]
  simp
theorem s021 (B : List Int) (o : Nat) (a b c : Int) (h : o + 3 ≤ B.length) : ((B.set o a).set (o + 2) c).set (o + 1) b = threeE B o a b c := by rw [List.set_comm _ _ (by omega)]; exact set3 B o a b c h
theorem s102 (B : List Int) (o : Nat) (a b c : Int) (h : o + 3 ≤ B.length) : ((B.set (o + 1) b).set o a).set (o + 2) c = threeE B o a b c := by rw [List.set_comm (i := o + 1) (j := o) _ _ (by omega)]; exact set3 B o a b c h
theorem s120 (B : List Int) (o : Nat) (a b c : Int) (h : o + 3 ≤ B.length) : ((B.set (o + 1) b).set (o + 2) c).set o a = threeE B o a b c := by rw [List.set_comm (i := o + 2) (j := o) _ _ (by omega)]; exact s102 B o a b c h
theorem s201 (B : List Int) (o : Nat) (a b c : Int) (h : o + 3 ≤ B.length) : ((B.set (o + 2) c).set o a).set (o + 1) b = threeE B o a b c := by rw [List.set_comm (i := o + 2) (j := o) _ _ (by omega)]; exact s021 B o a b c h
theorem s210 (B : List Int) (o : Nat) (a b c : Int) (h : o + 3 ≤ B.length) : ((B.set (o + 2) c).set (o + 1) b).set o a = threeE B o a b c := by rw [List.set_comm (i := o + 1) (j := o) _ _ (by omega)]; exact s201 B o a b c h
theorem three_length {B : List Int} {o : Nat} {a b c : Int} (h : o + 3 ≤ B.length) : (threeE B o a b c).length = B.length := by rw [← set3 B o a b c h]; simp
theorem step_buf {l : List S42} (h : ∀ x ∈ l, x.f1.size ≤ 24) {j : Nat} (hj : j < l.length) :
    (threeE (bufE l j) (28 * j) 0 (inoAt l j) ((nameAt l j).size : Int)).take (28 * j + 3) ++ bytesOf (nameAt l j) ++ (threeE (bufE l j) (28 * j) 0 (inoAt l j) ((nameAt l j).size : Int)).drop (28 * j + 3 + (nameAt l j).size) = bufE l (j + 1) := by
  have h1 := putL_length (l.take j) (fun x hx => h x (List.mem_of_mem_take hx))
  rw [List.length_take, Nat.min_eq_left (by omega)] at h1
  have hz : (nameAt l j).size ≤ 24 := by rw [(at_get hj).2]; exact h _ (List.getElem_mem _)
  have ht : (bufE l j).take (28 * j) = putL (l.take j) := by unfold bufE; rw [List.take_append_of_le_length (by omega), List.take_of_length_le (by omega)]
  have hd : (bufE l j).drop (28 * j + 3) = List.replicate (28 * (l.length - j) - 3) 0 := by
    unfold bufE; rw [List.drop_append, List.drop_of_length_le (by omega), List.nil_append, List.drop_replicate, h1]; congr 1; omega
  unfold threeE
  rw [ht, hd]
  generalize hP : putL (l.take j) = P at *
  have hl3 : (P ++ [0, inoAt l j, ((nameAt l j).size : Int)]).length = 28 * j + 3 := by simp [h1]
  rw [List.take_append_of_le_length (by omega), List.take_of_length_le (by omega), List.drop_append, List.drop_of_length_le (by omega), List.nil_append, hl3, List.drop_replicate]
  have e : putL (l.take (j + 1)) = P ++ encE l[j] := by
    rw [List.take_succ_eq_append_getElem hj, putL, List.flatMap_append]
    rw [putL] at hP
    rw [hP]
    simp
  unfold bufE
  rw [e, encE, ← (at_get hj).1, ← (at_get hj).2]
  simp only [List.append_assoc]
  congr 3
  rw [List.replicate_append_replicate]
  congr 1
  omega
theorem step_nums {l : List S42} (h : ∀ x ∈ l, x.f1.size ≤ 24) {j : Nat} (hj : j < l.length) :
    (nums .u8 (threeE (bufE l j) (28 * j) 0 (inoAt l j) ((nameAt l j).size : Int))).take (28 * j + 3) ++ Lib.byteCells (nameAt l j).data.toList ++ (nums .u8 (threeE (bufE l j) (28 * j) 0 (inoAt l j) ((nameAt l j).size : Int))).drop (28 * j + 3 + (nameAt l j).size) = nums .u8 (bufE l (j + 1)) := by
  rw [← step_buf h hj, nums_append, nums_append]
  have hb : Lib.byteCells (nameAt l j).data.toList = nums .u8 (bytesOf (nameAt l j)) := by simp [Lib.byteCells, nums, bytesOf]
  rw [hb]
  simp [nums, List.map_take, List.map_drop]
section
variable {P : Program} {o : Oper} {a : Act} {w : World} {K : Act → World → Prop} {Q : Exit → Act → World → Prop}
theorem wp_store_cell (ty : TypeId) (x y : Operand) (ho : o.op = .store ty x y) (g n : Nat) (hx : a.eval x = .pointer (some ⟨g, n, none⟩)) (k : IntKind) (L : List Int) (u : Int) (hy : a.eval y = .int k u) (t : TypeId)
    (hg : w.heap[g]? = some (.cells (nums k L).toArray t (0, 0))) (hi : (P.info? ty).map (·.size) = some 1) (hn : n < L.length)
    (h : ∀ w1, w1.heap[g]? = some (.cells (nums k (L.set n u)).toArray t (0, 0)) → w.grownBy w1 (some g) → K (a.put o.dst undef) w1) : o.wp P a w K Q := by
  have hst := run_storeCells_at (P := P) g n t [Value.int k u] 0 (nums k L).toArray w hg (by simp [nums]; omega) (fun v hv => by simp at hv; subst hv; rfl)
  simp only [Nat.add_zero] at hst
  have hset : (nums k L).take n ++ [Value.int k u] ++ (nums k L).drop (n + 1) = nums k (L.set n u) := by
    rw [List.set_eq_take_append_cons_drop, if_pos hn]
    simp [nums, List.map_take, List.map_drop]
  have hrun : (storeVar ty ⟨g, n, none⟩ (.int k u)).run P w = .ok () (w.setRow g (nums k (L.set n u)).toArray) := by
    cases hq : P.info? ty with
    | none => simp [hq] at hi
    | some i =>
      have hs : (Value.int k u).cells.size = i.size := by
        simp [hq] at hi
        rw [hi]; rfl
      have hst' := hst
      simp only [List.length_cons, List.length_nil, Nat.zero_add] at hst'
      rw [hset] at hst'
      simp [storeVar, sizeOf, typeInfo, hq, hs]
      rw [show (Value.int k u).cells.toList = [Value.int k u] from rfl, hst']
  unfold Oper.wp execOp
  simp only [ho, hx, hy, Instr.storeAt, Instr.sureAddr, Sem.run_bind, Sem.run_pure, Result.andThen_ok, hrun]
  exact h _ (setRow_heap w g _ _ t (0, 0) hg) (grown_setRow w g _)
theorem wp_copy_string (d s : Operand) (dT sT : TypeId)
    (ho : o.op = .call { callee := .builtin .copy, args := #[d, s], argTypes := #[dT, sT] }) (elem : TypeId) (hu : P.underlying dT = some (.slice elem)) (hsz : (P.info? elem).map (·.size) = some 1)
    (g n dLen dCap : Nat) (S : ByteArray) (hd : a.eval d = .slice (some ⟨g, n, none⟩) dLen dCap) (hs : a.eval s = .string S)
    (cur : List Value) (t : TypeId) (hg : w.heap[g]? = some (.cells cur.toArray t (0, 0))) (hle : S.size ≤ dLen) (hfit : n + S.size ≤ cur.length)
    (h : ∀ w', w'.heap[g]? = some (.cells (cur.take n ++ Lib.byteCells S.data.toList ++ cur.drop (n + S.size)).toArray t (0, 0)) → w.grownBy w' (some g) → K (a.put o.dst (goInt S.size)) w') : o.wp P a w K Q := by
  have hr := Lib.run_copy_row_string (P := P) w dT sT o.type elem g n dLen dCap S cur.toArray t hu hsz hg hle (by simpa using hfit)
  unfold Oper.wp execOp
  simp only [ho, resolve, invoke, builtin, Sem.run_bind, Sem.run_pure, Result.andThen_ok, List.map_toArray, List.map_cons, List.map_nil, hd, hs, hr]
  exact h _ (setRow_heap w g cur.toArray _ t (0, 0) hg) (grown_setRow w g _)
end
theorem put_no (w : World) (A : Option Addr) (c : Nat) (l : List S42) (hr : Row w A l) (hT : Lib.Utf8Tabs 1 2 w) (hm : mayE l = false) :
    Calls Tryd.prog 10 #[.slice A l.length c] w fun e w' => e = .returned (.tuple #[.slice none 0 0, .int .i64 1]) ∧ Below w.heap.size w w' := by
  have HR := Aside0.mk hr
  have HT := Aside0.mk hT
  have HM := Aside0.mk hm
  clear hr hT hm
  go_enter Tryd.func10, Tryd.ntmps10
  go_wp2_with (first
    | (go_at_call 15; refine (may_any _ A c l HR.out HT.out).mono ?_; rw [HM.out]; rintro e w1 ⟨rfl, hb⟩; have HB1 := Aside0.mk (hb); clear hb))
  go_ret2
  exact ⟨rfl, HB1.out⟩
theorem ev_value' {P : Program} {ops : Array Oper} {rest : List Oper} {o : Oper} {a : Act} {w : World} {Q : Exit → Act → World → Prop} (hgd : o.guard = none) (v : Value) (hr : (execOp a.eval o).run P w = .ok (.value v) w) (h : wpList P ops Q rest (a.put o.dst v) w) : wpList P ops Q (o :: rest) a w :=
  wpList_plain hgd fun K hK => by unfold Oper.wp; rw [hr]; exact hK _ _ h
theorem cut_fact (W : World) (g o N m M : Nat) (hm : m < N) (hM : M = N - m) : (Instr.slice 23 (.slice (some ⟨g, o, none⟩) N N) (some (.int .i64 (m : Int))) none none).run Tryd.prog W = .ok (.slice (some ⟨g, o + m, none⟩) M M) W := by
  obtain ⟨i, hi, hsz⟩ := Option.map_eq_some_iff.1 sizeU8
  rw [run_slice_l W 23 _ N N (by rw [show Tryd.prog.elem 23 = 5 from by simp [Program.elem, Tryd.underlying23]]; exact Tryd.underlying23) .i64 (m : Int) (Int.natCast_nonneg _) (by omega)]
  rw [show Tryd.prog.elem 23 = 5 from by simp [Program.elem, Tryd.underlying23]]
  subst hM
  have h1 : ¬ N = m := by omega
  have h2 : (⟨g, o, none⟩ : Addr).add m = ⟨g, o + m, none⟩ := Addr.add_mid g o m
  simp [sizeOf, typeInfo, hi, hsz, sliced, Result.andThen, h1, h2]
set_option maxHeartbeats 4000000 in
set_option maxRecDepth 100000 in
theorem put_yes (w : World) (A : Option Addr) (c : Nat) (l : List S42) (hr : Row w A l) (hT : Lib.Utf8Tabs 1 2 w) (hm : mayE l = true) :
    Calls Tryd.prog 10 #[.slice A l.length c] w fun e w' => ∃ v, e = .returned (.tuple #[v, .int .i64 0]) ∧ w'.ownsRow w.heap.size 5 1 v (putL l).length (nums .u8 (putL l)) ∧ Below w.heap.size w w' := by
  have hu42 := Aside0.mk Tryd.underlying42
  have HR := Aside0.mk hr
  have HT := Aside0.mk hT
  have HM := Aside0.mk hm
  have HP := Aside0.mk ((mayE_iff l).1 hm)
  have HSZ := Aside0.mk HP.out.sizes
  have hl64 := HP.out.1
  have hl64i : (l.length : Int) ≤ 64 := by omega
  obtain ⟨N, hN⟩ : ∃ N, N = 28 * l.length := ⟨_, rfl⟩
  have HN := Aside0.mk (And.intro hN (show N ≤ 1792 by omega))
  have hwN : IntKind.wrap .i64 ((l.length : Int) * 28) = (N : Int) := (IntWalk.i64_in _ ⟨by omega, by omega⟩).trans (by omega)
  have hN0 : (0 : Int) ≤ (N : Int) := Int.natCast_nonneg _
  clear hr hT hm hN hl64
  go_enter Tryd.func10, Tryd.ntmps10
  go_wp2_with (first
    | (go_at_call 15; refine (may_any _ A c l HR.out HT.out).mono ?_; rw [HM.out]; rintro e w1 ⟨rfl, hb⟩; have HB1 := Aside0.mk (hb); clear hb)
    | ((with_reducible refine gate_dst (N := 14) rfl ?_); refine ev_make rfl (.tmp 13) (.tmp 13) 23 5 .u8 1 rfl Tryd.underlying23 infoU8 N N .i64 .i64 (N : Int) (N : Int) (by kernel_rfl) (by kernel_rfl) rfl rfl (Nat.le_refl _) (by have := HN.out; omega) (by have := HN.out; omega) ?_; intro gB hg w2 hbox hb; have GE := Aside0.mk (show w.heap.size ≤ gB from by have := HB1.out.size; omega); have HB2 := Aside0.mk (below_step HB1.out hb); have BB2 : Aside0 (w2.heap[gB]? = some (.cells (nums .u8 (bufE l 0)).toArray 5 (0, 0))) := ⟨by rw [bufE_zero, ← HN.out.1]; exact hbox⟩; clear hb hbox hg))
  go_loopw [17] (fun i wr => ∃ j : Nat, j ≤ l.length ∧ i = .int .i64 j ∧ Aside0 (wr.heap[gB]? = some (.cells (nums .u8 (bufE l j)).toArray 5 (0, 0))) ∧ Aside0 (Below w.heap.size w wr)) (fun i _ => l.length - (intOf i).toNat)
  case atStart => exact ⟨0, Nat.zero_le _, rfl, BB2, HB2⟩
  case round =>
    obtain ⟨j, hj, rfl, BB, HW⟩ := hrel
    clear BB2 HB2
    by_cases hlt : j < l.length
    · have hlt' : (j : Int) < (l.length : Int) := by omega
      have hj0 : (0 : Int) ≤ (j : Int) := Int.natCast_nonneg _
      have HJ := Aside0.mk hlt
      obtain ⟨ad, rfl, c0, c1⟩ := (HR.out.below HW.out).at_ hlt
      have hen := HP.out.entry hlt
      obtain ⟨o, ho⟩ : ∃ o, o = 28 * j := ⟨_, rfl⟩
      obtain ⟨M, hM⟩ : ∃ M, M = N - o := ⟨_, rfl⟩
      obtain ⟨M3, hM3⟩ : ∃ M3, M3 = M - 3 := ⟨_, rfl⟩
      have hNN := HN.out
      have hst := step_nums HSZ.out hlt
      have hbl := bufE_length HSZ.out (Nat.le_of_lt hlt)
      rw [← ho] at hst
      obtain ⟨ino, hino⟩ : ∃ x, inoAt l j = x := ⟨_, rfl⟩
      obtain ⟨nm, hnm⟩ : ∃ x, nameAt l j = x := ⟨_, rfl⟩
      rw [hino] at c0 hen hst
      rw [hnm] at c1 hen hst
      have HST := Aside0.mk hst
      have HNZ := Aside0.mk hen.2.2.2
      have HBL := Aside0.mk (show o + 3 ≤ (bufE l j).length by omega)
      have HBL0 := Aside0.mk (show o < (bufE l j).length by omega)
      have HBL1 := Aside0.mk (show o + 1 < (bufE l j).length by omega)
      have HBL2 := Aside0.mk (show o + 2 < (bufE l j).length by omega)
      have HFIT := Aside0.mk (show o + 3 + nm.size ≤ (bufE l j).length by have := hen.2.2.2; omega)
      have HLE := Aside0.mk (show nm.size ≤ M3 by have := hen.2.2.2; omega)
      have HM3 := Aside0.mk (show 3 < M ∧ M3 = M - 3 from ⟨by omega, hM3⟩)
      have HSH := Aside0.mk (show ino / 256 = 0 by omega)
      have HIW := Aside0.mk (show IntKind.wrap .u8 ino = ino from IntWalk.u8_in _ ⟨by omega, by omega⟩)
      have HSW := Aside0.mk (show IntKind.wrap .u8 (nm.size : Int) = (nm.size : Int) from IntWalk.u8_in _ ⟨by omega, by have := hen.2.2.2; omega⟩)
      have hwj : IntKind.wrap .i64 ((j : Int) * 28) = (o : Int) := (IntWalk.i64_in _ ⟨by omega, by omega⟩).trans (by omega)
      have hcut := fun W => cut_fact W gB 0 N o M (by omega) hM
      simp only [Nat.zero_add] at hcut
      have hM0 : (0 : Int) < (M : Int) := by omega
      have hM1 : (1 : Int) < (M : Int) := by omega
      have hM2 : (2 : Int) < (M : Int) := by omega
      have hm0 : 0 < M := by omega
      have hm1 : 1 < M := by omega
      have hm2 : 2 < M := by omega
      clear hlt hj ho hM hM3 hNN hst hbl hino hnm hen
      go_wp2_with (first
    | ((with_reducible refine gate_dst (N := 21) rfl ?_); refine wpList_load_pair rfl 42 (.tmp 20) (by kernel_rfl) _ (by go_simp; rfl) _ _ _ c0 c1 hu42.out rfl (by kernel_rfl) ?_)
    | ((with_reducible refine gate_dst (N := 6) rfl ?_); refine box_event ?hg (N := 6) ?hd (cs := #[.int .i64 0, .string ⟨#[]⟩]) (t := 42) ?hr ?_; (case hd => rfl); (case hg => rfl); (case hr => first | (go_simp; done) | (go_simp; rfl) | kernel_rfl); intro gg hg w3 hbox hb; have Gg := Aside0.mk (show w.heap.size ≤ gg from by have := HW.out.size; omega); have Ng := Aside0.mk (show gg ≠ gB from fun e => by have h1 := blk_lt BB.out; omega); have HB3 := Aside0.mk (below_step HW.out hb); have Bg3 := Aside0.mk (hbox); have BB3 := Aside0.mk (blk_below BB.out hb); clear hb hbox hg)
    | ((with_reducible refine gate_store (t := 42) (p := 6) (v := .tmp 21) rfl ?_); refine ev_store_row (by rfl) 42 (.tmp 6) (.tmp 21) (by rfl) gg (cellsE ino nm) (by kernel_rfl) (by kernel_rfl) 42 _ Bg3.out (sizeEntry _ _) (by rfl) (cellsE_all _ _) ?_; intro w4 hbox hg; have HB4 := Aside0.mk (pw_below_grown HB3.out _ HB3.out.size hg (fun q e => by cases e; exact Gg.out)); have Bg4 := Aside0.mk (hbox); have BB4 := Aside0.mk (blk_grown BB3.out hg (fun e => Ng.out (Option.some.inj e).symm)); clear hbox hg))
      have BS0 : Aside0 (w4.drew.heap[gB]? = some (.cells (nums .u8 (bufE l j)).toArray 5 (0, 0))) := ⟨blk_below BB4.out (below_drew (Below.refl w4.heap.size w4))⟩
      refine wp_region_held_drew (S := fun W => w4.grownBy W (some gB)) (by kernel_rfl) (grown_of_below (below_drew (Below.refl w4.heap.size w4)) _) (fun hHeld => ?_)
      refine wpAnyH_take (i := 0) (oi := ⟨some 26, _, _, _, _, _⟩) (v := (.slice (some ⟨gB, o, none⟩) M M)) rfl (by kernel_rfl) (by kernel_rfl) (by kernel_rfl) (fun _ _ _ h => h) (Or.inl ⟨by rfl, fun W hS => by go_simp⟩) hHeld ?_
      (try simp only [Act.put, List.setIfInBounds_toArray, List.set_cons_zero, List.set_cons_succ])
      refine wpAnyH_take (i := 1) (oi := ⟨some 27, _, _, _, _, _⟩) (v := (.slice (some ⟨gB, o, none⟩) M M)) rfl (by kernel_rfl) (by kernel_rfl) (by kernel_rfl) (fun _ _ _ h => h) (Or.inl ⟨by rfl, fun W hS => by go_simp⟩) hHeld ?_
      (try simp only [Act.put, List.setIfInBounds_toArray, List.set_cons_zero, List.set_cons_succ])
      refine wpAnyH_take (i := 2) (oi := ⟨some 28, _, _, _, _, _⟩) (v := (.slice (some ⟨gB, o, none⟩) M M)) rfl (by kernel_rfl) (by kernel_rfl) (by kernel_rfl) (fun _ _ _ h => h) (Or.inl ⟨by rfl, fun W hS => by go_simp⟩) hHeld ?_
      (try simp only [Act.put, List.setIfInBounds_toArray, List.set_cons_zero, List.set_cons_succ])
      refine wpAnyH_take (i := 3) (oi := ⟨some 29, _, _, _, _, _⟩) (v := (.pointer (some ⟨gg, 0, none⟩))) rfl (by kernel_rfl) (by kernel_rfl) (by kernel_rfl) (fun _ _ _ h => h) (Or.inl ⟨by rfl, fun W hS => by go_simp⟩) hHeld ?_
      (try simp only [Act.put, List.setIfInBounds_toArray, List.set_cons_zero, List.set_cons_succ])
      refine wpAnyH_take (i := 4) (oi := ⟨some 30, _, _, _, _, _⟩) (v := (.int .i64 ino)) rfl (by kernel_rfl) (by kernel_rfl) (by kernel_rfl) (fun _ _ _ h => h) (Or.inl ⟨by rfl, fun W hS => by have d0 : W.cell? ⟨gg, 0, none⟩ = some (.int .i64 ino) := blk_cell (blk_grown Bg4.out hS (fun e => Ng.out (Option.some.inj e))) 0; go_simp⟩) hHeld ?_
      (try simp only [Act.put, List.setIfInBounds_toArray, List.set_cons_zero, List.set_cons_succ])
      refine wpAnyH_take (i := 5) (oi := ⟨some 31, _, _, _, _, _⟩) (v := (.int .i64 0)) rfl (by kernel_rfl) (by kernel_rfl) (by kernel_rfl) (fun _ _ _ h => h) (Or.inl ⟨by rfl, fun W hS => by go_simp; exact HSH.out⟩) hHeld ?_
      (try simp only [Act.put, List.setIfInBounds_toArray, List.set_cons_zero, List.set_cons_succ])
      refine wpAnyH_take (i := 6) (oi := ⟨some 32, _, _, _, _, _⟩) (v := (.int .u8 0)) rfl (by kernel_rfl) (by kernel_rfl) (by kernel_rfl) (fun _ _ _ h => h) (Or.inl ⟨by rfl, fun W hS => by go_simp; rfl⟩) hHeld ?_
      (try simp only [Act.put, List.setIfInBounds_toArray, List.set_cons_zero, List.set_cons_succ])
      refine wpAnyH_take (i := 7) (oi := ⟨some 33, _, _, _, _, _⟩) (v := (.pointer (some ⟨gg, 0, none⟩))) rfl (by kernel_rfl) (by kernel_rfl) (by kernel_rfl) (fun _ _ _ h => h) (Or.inl ⟨by rfl, fun W hS => by go_simp⟩) hHeld ?_
      (try simp only [Act.put, List.setIfInBounds_toArray, List.set_cons_zero, List.set_cons_succ])
      refine wpAnyH_take (i := 8) (oi := ⟨some 34, _, _, _, _, _⟩) (v := (.int .i64 ino)) rfl (by kernel_rfl) (by kernel_rfl) (by kernel_rfl) (fun _ _ _ h => h) (Or.inl ⟨by rfl, fun W hS => by have d0 : W.cell? ⟨gg, 0, none⟩ = some (.int .i64 ino) := blk_cell (blk_grown Bg4.out hS (fun e => Ng.out (Option.some.inj e))) 0; go_simp⟩) hHeld ?_
      (try simp only [Act.put, List.setIfInBounds_toArray, List.set_cons_zero, List.set_cons_succ])
      refine wpAnyH_take (i := 9) (oi := ⟨some 35, _, _, _, _, _⟩) (v := (.int .u8 ino)) rfl (by kernel_rfl) (by kernel_rfl) (by kernel_rfl) (fun _ _ _ h => h) (Or.inl ⟨by rfl, fun W hS => by go_simp; exact HIW.out⟩) hHeld ?_
      (try simp only [Act.put, List.setIfInBounds_toArray, List.set_cons_zero, List.set_cons_succ])
      refine wpAnyH_take (i := 10) (oi := ⟨some 36, _, _, _, _, _⟩) (v := (.pointer (some ⟨gg, 1, none⟩))) rfl (by kernel_rfl) (by kernel_rfl) (by kernel_rfl) (fun _ _ _ h => h) (Or.inl ⟨by rfl, fun W hS => by go_simp⟩) hHeld ?_
      (try simp only [Act.put, List.setIfInBounds_toArray, List.set_cons_zero, List.set_cons_succ])
      refine wpAnyH_take (i := 11) (oi := ⟨some 37, _, _, _, _, _⟩) (v := (.string nm)) rfl (by kernel_rfl) (by kernel_rfl) (by kernel_rfl) (fun _ _ _ h => h) (Or.inl ⟨by rfl, fun W hS => by have d1 : W.cell? ⟨gg, 1, none⟩ = some (.string nm) := blk_cell (blk_grown Bg4.out hS (fun e => Ng.out (Option.some.inj e))) 1; go_simp⟩) hHeld ?_
      (try simp only [Act.put, List.setIfInBounds_toArray, List.set_cons_zero, List.set_cons_succ])
      refine wpAnyH_take (i := 12) (oi := ⟨some 38, _, _, _, _, _⟩) (v := (.int .i64 (nm.size : Int))) rfl (by kernel_rfl) (by kernel_rfl) (by kernel_rfl) (fun _ _ _ h => h) (Or.inl ⟨by rfl, fun W hS => by go_simp⟩) hHeld ?_
      (try simp only [Act.put, List.setIfInBounds_toArray, List.set_cons_zero, List.set_cons_succ])
      refine wpAnyH_take (i := 13) (oi := ⟨some 39, _, _, _, _, _⟩) (v := (.int .u8 (nm.size : Int))) rfl (by kernel_rfl) (by kernel_rfl) (by kernel_rfl) (fun _ _ _ h => h) (Or.inl ⟨by rfl, fun W hS => by go_simp; exact HSW.out⟩) hHeld ?_
      (try simp only [Act.put, List.setIfInBounds_toArray, List.set_cons_zero, List.set_cons_succ])
      refine wpAnyH_take (i := 14) (oi := ⟨some 40, _, _, _, _, _⟩) (v := (.pointer (some ⟨gB, o, none⟩))) rfl (by kernel_rfl) (by kernel_rfl) (by kernel_rfl) (fun _ _ _ h => h) (Or.inl ⟨by rfl, fun W hS => by go_simp⟩) hHeld ?_
      (try simp only [Act.put, List.setIfInBounds_toArray, List.set_cons_zero, List.set_cons_succ])
      refine wpAnyH_ready (rs := [15]) (by kernel_rfl) (by simp) ?_
      refine AllReadyH.cons rfl (fun K hK => ?_) AllReadyH.nil
      have hoff : o < (bufE l j).length := by (try simp only [List.length_set]); exact HBL0.out
      refine wp_store_cell 5 (.tmp 40) (.tmp 32) rfl gB o (by kernel_rfl) .u8 (bufE l j) 0 (by kernel_rfl) 5 BS0.out sizeU8 hoff (fun v0 hbx hg1 => ?_)
      refine hK.out _ _ (hHeld.trans hg1) (fun hH => ?_)
      have BS1 := Aside0.mk hbx
      clear hK K hHeld hbx hg1 hoff BS0
      have hHeld := hH
      clear hH
      (try simp only [Act.put, List.setIfInBounds_toArray, List.set_cons_zero, List.set_cons_succ])
      refine wpAnyH_take (i := 16) (oi := ⟨some 41, _, _, _, _, _⟩) (v := (.pointer (some ⟨gB, o + 1, none⟩))) rfl (by kernel_rfl) (by kernel_rfl) (by kernel_rfl) (fun _ _ _ h => h) (Or.inl ⟨by rfl, fun W hS => by go_simp⟩) hHeld ?_
      (try simp only [Act.put, List.setIfInBounds_toArray, List.set_cons_zero, List.set_cons_succ])
      refine wpAnyH_ready (rs := [17]) (by kernel_rfl) (by simp) ?_
      refine AllReadyH.cons rfl (fun K hK => ?_) AllReadyH.nil
      have hoff : (o + 1) < ((bufE l j).set o 0).length := by (try simp only [List.length_set]); exact HBL1.out
      refine wp_store_cell 5 (.tmp 41) (.tmp 35) rfl gB (o + 1) (by kernel_rfl) .u8 ((bufE l j).set o 0) ino (by kernel_rfl) 5 BS1.out sizeU8 hoff (fun v1 hbx hg1 => ?_)
      refine hK.out _ _ (hHeld.trans hg1) (fun hH => ?_)
      have BS2 := Aside0.mk hbx
      clear hK K hHeld hbx hg1 hoff BS1
      have hHeld := hH
      clear hH
      (try simp only [Act.put, List.setIfInBounds_toArray, List.set_cons_zero, List.set_cons_succ])
      refine wpAnyH_take (i := 18) (oi := ⟨some 42, _, _, _, _, _⟩) (v := (.pointer (some ⟨gB, o + 2, none⟩))) rfl (by kernel_rfl) (by kernel_rfl) (by kernel_rfl) (fun _ _ _ h => h) (Or.inl ⟨by rfl, fun W hS => by go_simp⟩) hHeld ?_
      (try simp only [Act.put, List.setIfInBounds_toArray, List.set_cons_zero, List.set_cons_succ])
      refine wpAnyH_ready (rs := [19]) (by kernel_rfl) (by simp) ?_
      refine AllReadyH.cons rfl (fun K hK => ?_) AllReadyH.nil
      have hoff : (o + 2) < (((bufE l j).set o 0).set (o + 1) ino).length := by (try simp only [List.length_set]); exact HBL2.out
      refine wp_store_cell 5 (.tmp 42) (.tmp 39) rfl gB (o + 2) (by kernel_rfl) .u8 (((bufE l j).set o 0).set (o + 1) ino) (nm.size : Int) (by kernel_rfl) 5 BS2.out sizeU8 hoff (fun v2 hbx hg1 => ?_)
      refine hK.out _ _ (hHeld.trans hg1) (fun hH => ?_)
      have BS3 := Aside0.mk hbx
      clear hK K hHeld hbx hg1 hoff BS2
      have hHeld := hH
      clear hH
      (try simp only [Act.put, List.setIfInBounds_toArray, List.set_cons_zero, List.set_cons_succ])
      refine wpAnyH_done (by kernel_rfl) ?_ _
      have BT : Aside0 (v2.heap[gB]? = some (.cells (nums .u8 (threeE (bufE l j) o 0 ino (nm.size : Int))).toArray 5 (0, 0))) := ⟨set3 (bufE l j) o 0 ino (nm.size : Int) HBL.out ▸ BS3.out⟩
      have G5 := Aside0.mk hHeld
      clear hHeld BS3
      (try simp only [Exit.then])
      go_wp2
      refine wp_region_held_drew (S := fun W => v2.grownBy W (some gB)) (by kernel_rfl) (grown_of_below (below_drew (Below.refl v2.heap.size v2)) _) (fun hHeld => ?_)
      have BT2 : Aside0 (v2.drew.heap[gB]? = some (.cells (nums .u8 (threeE (bufE l j) o 0 ino (nm.size : Int))).toArray 5 (0, 0))) := ⟨blk_below BT.out (below_drew (Below.refl v2.heap.size v2))⟩
      refine wpAnyH_take (i := 0) (oi := ⟨some 43, _, _, _, _, _⟩) (v := (.slice (some ⟨gB, o, none⟩) M M)) rfl (by kernel_rfl) (by kernel_rfl) (by kernel_rfl) (fun _ _ _ h => h) (Or.inl ⟨by rfl, fun W hS => by go_simp⟩) hHeld ?_
      (try simp only [Act.put, List.setIfInBounds_toArray, List.set_cons_zero, List.set_cons_succ])
      refine wpAnyH_take (i := 1) (oi := ⟨some 44, _, _, _, _, _⟩) (v := (.slice (some ⟨gB, o + 3, none⟩) M3 M3)) rfl (by kernel_rfl) (by kernel_rfl) (by kernel_rfl) (fun _ _ _ h => h) (Or.inl ⟨by rfl, fun W hS => by obtain ⟨a1, a2⟩ := HM3.out; have b1 : (3 : Int) ≤ (M : Int) := (by omega); have b2 : ¬ M = 3 := (by omega); subst a2; go_simp⟩) hHeld ?_
      (try simp only [Act.put, List.setIfInBounds_toArray, List.set_cons_zero, List.set_cons_succ])
      refine wpAnyH_take (i := 2) (oi := ⟨some 45, _, _, _, _, _⟩) (v := (.pointer (some ⟨gg, 1, none⟩))) rfl (by kernel_rfl) (by kernel_rfl) (by kernel_rfl) (fun _ _ _ h => h) (Or.inl ⟨by rfl, fun W hS => by go_simp⟩) hHeld ?_
      (try simp only [Act.put, List.setIfInBounds_toArray, List.set_cons_zero, List.set_cons_succ])
      refine wpAnyH_take (i := 3) (oi := ⟨some 46, _, _, _, _, _⟩) (v := (.string nm)) rfl (by kernel_rfl) (by kernel_rfl) (by kernel_rfl) (fun _ _ _ h => h) (Or.inl ⟨by rfl, fun W hS => by have d1 : W.cell? ⟨gg, 1, none⟩ = some (.string nm) := blk_cell (blk_grown (blk_grown Bg4.out G5.out (fun e => Ng.out (Option.some.inj e))) hS (fun e => Ng.out (Option.some.inj e))) 1; go_simp⟩) hHeld ?_
      (try simp only [Act.put, List.setIfInBounds_toArray, List.set_cons_zero, List.set_cons_succ])
      refine wpAnyH_ready (rs := [4]) (by kernel_rfl) (by simp) ?_
      refine AllReadyH.cons rfl (fun K hK => ?_) AllReadyH.nil
      refine wp_copy_string (.tmp 44) (.tmp 46) 23 9 rfl 5 Tryd.underlying23 sizeU8 gB (o + 3) M3 M3 nm (by kernel_rfl) (by kernel_rfl) _ 5 BT2.out HLE.out (by rw [nums_length, three_length HBL.out]; exact HFIT.out) (fun w6 hbx hg6 => ?_)
      refine hK.out _ _ (hHeld.trans hg6) (fun hH => ?_)
      have BN : Aside0 (w6.heap[gB]? = some (.cells (nums .u8 (bufE l (j + 1))).toArray 5 (0, 0))) := ⟨by rw [HST.out] at hbx; exact hbx⟩
      have HN6 := Aside0.mk (pw_below_grown HB4.out _ HB4.out.size (G5.out.trans hH) (fun q e => by cases e; exact GE.out))
      clear hK K hHeld hbx hg6 hH
      (try simp only [Act.put, List.setIfInBounds_toArray, List.set_cons_zero, List.set_cons_succ])
      refine wpAnyH_done (by kernel_rfl) ?_ _
      (try simp only [Exit.then])
      go_wp2
      go_roundw
      case rel => exact ⟨j + 1, HJ.out, by go_num, BN, HN6⟩
      case measure => simp [intOf]; have := HJ.out; omega
    · obtain rfl : j = l.length := by omega
      clear hlt hj
      go_wp2
      go_ret2
      have hlen := putL_length l HSZ.out
      refine ⟨_, rfl, ?_, HW.out⟩
      have hb := BB.out
      rw [bufE_end] at hb
      have hNN := HN.out
      have hn : (putL l).length = N := by omega
      rw [hn]
      refine ⟨by rw [nums_length]; omega, .inr ⟨gB, N, (nums .u8 (putL l)).toArray, rfl, GE.out, hb, Nat.le_refl _, by simp [maxLen]; omega, by simp [nums_length]; omega, ?_⟩⟩
      rw [Nat.mul_one, List.take_of_length_le (by simp [nums_length]; omega)]
end Go.Proofs.YtneanbckmekdkaaDoor.EN
