/- slices.DeleteFunc over numbers, asked whether one is 0. -/
import Derived.Test.YtgiapegacbibeaaMEv
import Derived.Deep.MidRow
namespace Go.Proofs.YtgiapegacbibeaaX
open Go.RowKit Go.Proofs.YtgiapegacbibeaaW.PrintWords
set_option linter.unusedVariables false
set_option linter.unusedSimpArgs false
/-- clear(s), elements of one cell, in a block that is known whole. -/
theorem ev_clear {P : Program} {ops : Array Oper} {rest : List Oper} {o : Oper} {a : Act} {w : World} {Q : Exit → Act → World → Prop} (hgd : o.guard = none) (x : Operand) (t e : TypeId) (k : IntKind)
    (ho : o.op = .call { callee := .builtin .clear, args := #[x], argTypes := #[t] }) (ht : P.underlying t = some (.slice e)) (hi : (P.info? e).map (·.zero) = some (some (.int k 0)))
    (g off n c : Nat) (hx : a.eval x = .slice (some ⟨g, off, none⟩) n c) (hn : 0 < n) (L : List Value) (te : TypeId) (hg : w.heap[g]? = some (.cells L.toArray te (0, 0))) (hfit : off + n ≤ L.length)
    (h : ∀ w1, w1.heap[g]? = some (.cells (L.take off ++ List.replicate n (Value.int k 0) ++ L.drop (off + n)).toArray te (0, 0)) → w.grownBy w1 (some g) → wpList P ops Q rest (a.put o.dst (.tuple #[])) w1) : wpList P ops Q (o :: rest) a w := by
  obtain ⟨i, hi', hz⟩ := Option.map_eq_some_iff.1 hi
  have hzc : (Builtin.zeroCells (Value.int k 0).cells n).toList = List.replicate n (Value.int k 0) := by
    apply List.ext_getElem
    · simp [Builtin.zeroCells, Value.cells]
    · intro j h1 h2
      simp [Builtin.zeroCells, Value.cells, Nat.mod_one]
  have hst := run_storeCells_at (P := P) g off te (List.replicate n (Value.int k 0)) 0 L.toArray w hg (by simpa using hfit) (by intro v hv; rw [(List.mem_replicate.1 hv).2]; rfl)
  simp only [Nat.add_zero] at hst
  have hrun : (Builtin.clear_ #[t] o.type #[.slice (some ⟨g, off, none⟩) n c]).run P w = .ok (.tuple #[]) (w.setRow g (L.take off ++ List.replicate n (Value.int k 0) ++ L.drop (off + n)).toArray) := by
    obtain ⟨m, rfl⟩ : ∃ m, n = m + 1 := ⟨n - 1, by omega⟩
    unfold Builtin.clear_
    simp only [List.getElem?_toArray, List.getElem?_cons_zero, Sem.run_bind, run_underlying ht, Result.andThen_ok, zeroValue, typeInfo, hi', Sem.run_pure, hz, hzc, hst]
    simp [hi', hz, hzc, hst, Result.andThen]
  refine wpList_plain hgd fun K hK => ?_
  unfold Oper.wp execOp
  simp only [ho, resolve, invoke, builtin, Sem.run_bind, Sem.run_pure, Result.andThen_ok, List.map_toArray, List.map_cons, List.map_nil, hx, hrun]
  exact hK _ _ (h _ (by simpa using setRow_heap w g L.toArray _ te (0, 0) hg) (grown_setRow w g _))
theorem isZero_any (n : Int) (w : World) : Calls Try.prog 44 #[.int .u32 n] w fun e w' => e = .returned (.bool (n == 0)) ∧ w = w' := by
  go_enter Try.func44, Try.ntmps44
  go_wp2
  go_ret
  exact ⟨rfl, rfl⟩
/-- The numbers that are not 0. -/
def filt (l : List Int) : List Int := l.filter fun x => x != 0
/-- Where the first 0 stands; -1. -/
def firstZ (l : List Int) : Int := match l.findIdx? (fun x => x == 0) with
  | some i => (i : Int)
  | none => -1
theorem findZ_none {l : List Int} (h : ∀ j, j < l.length → (l.getD j 0 == 0) = false) : l.findIdx? (fun x => x == 0) = none := by
  rw [List.findIdx?_eq_none_iff]
  intro x hx
  obtain ⟨j, hj, rfl⟩ := List.getElem_of_mem hx
  have := h j hj
  rwa [List.getD_eq_getElem?_getD, List.getElem?_eq_getElem hj] at this
theorem findZ_some {l : List Int} {i : Nat} (hi : i < l.length) (h : ∀ j, j < i → (l.getD j 0 == 0) = false) (hx : (l.getD i 0 == 0) = true) : l.findIdx? (fun x => x == 0) = some i := by
  rw [List.findIdx?_eq_some_iff_getElem]
  refine ⟨hi, ?_, fun j hj => ?_⟩
  · rwa [List.getD_eq_getElem?_getD, List.getElem?_eq_getElem hi] at hx
  · have := h j hj
    rw [List.getD_eq_getElem?_getD, List.getElem?_eq_getElem (by omega : j < l.length)] at this
    simpa using this
set_option maxHeartbeats 1000000 in
theorem indexz_any (A : Option Addr) (n c : Nat) (l : List Int) (w : World) (hr : ReadsInt w .u32 A n l) :
    Calls Try.prog 48 #[.slice A n c, .func (.func 44) #[] #[]] w fun e w' => e = .returned (.int .i64 (firstZ l)) ∧ w = w' := by
  have HR := Aside0.mk hr
  have hl : l.length = n := hr.1
  have hn : n ≤ 9223372036854775807 := hr.2.1
  clear hr
  have HL := Aside0.mk hl
  clear hl
  go_enter Try.func48, Try.ntmps48
  go_wp2
  go_loop [8] (fun i => ∃ k : Nat, k ≤ n ∧ i = .int .i64 k ∧ Aside0 (∀ j, j < k → (l.getD j 0 == 0) = false)) (fun i => n - (intOf i).toNat)
  case atStart => exact ⟨0, Nat.zero_le _, rfl, ⟨fun j hj => absurd hj (by omega)⟩⟩
  case round =>
    obtain ⟨k, hk, rfl, HK⟩ := hrel
    by_cases hlt : k < n
    · obtain ⟨ad, rfl, hc⟩ := HR.out.at_ k (by omega) (by omega)
      rw [Int.toNat_natCast] at hc
      have hx0 : rd l k = l.getD k 0 := by unfold rd; rw [Int.toNat_natCast]
      rw [hx0] at hc
      obtain ⟨x, hx⟩ : ∃ x, l.getD k 0 = x := ⟨_, rfl⟩
      rw [hx] at hc
      have HX := Aside0.mk hx
      clear hx hx0
      by_cases hz : (x == 0) = true
      · have hfin : firstZ l = (k : Int) := by unfold firstZ; rw [findZ_some (by rw [HL.out]; exact hlt) HK.out (by rw [HX.out]; exact hz)]
        have HF := Aside0.mk hfin
        clear hfin
        go_wp2_with (go_at_call 44; refine (isZero_any x _).mono ?_; rintro e w' ⟨rfl, rfl⟩)
        go_ret
        exact ⟨by rw [HF.out]; rfl, rfl⟩
      · have hz' : (x == 0) = false := by simpa using hz
        clear hz
        go_wp2_with (go_at_call 44; refine (isZero_any x _).mono ?_; rintro e w' ⟨rfl, rfl⟩)
        go_round
        case rel => exact ⟨k + 1, by omega, by go_num, ⟨fun j hj => by
          rcases Nat.lt_or_ge j k with h | h
          · exact HK.out j h
          · obtain rfl : j = k := by omega
            rw [HX.out]; exact hz'⟩⟩
        case measure => simp [intOf]; omega
    · have hfin : firstZ l = -1 := by
        unfold firstZ; rw [findZ_none fun j hj => HK.out j (by have := HL.out; omega)]
      have HF := Aside0.mk hfin
      clear hfin
      go_wp2
      go_ret
      exact ⟨by rw [HF.out]; rfl, rfl⟩
theorem filt_snoc (l : List Int) (j : Nat) (h : j < l.length) : filt (l.take (j + 1)) = filt (l.take j) ++ (if (l.getD j 0 == 0) = true then [] else [l.getD j 0]) := by
  unfold filt
  rw [List.take_succ_eq_append_getElem h, List.filter_append]
  congr 1
  rw [List.getD_eq_getElem?_getD, List.getElem?_eq_getElem h]
  simp only [Option.getD_some]
  by_cases hz : l[j] = 0
  · simp [hz]
  · simp [hz]
theorem filt_le (l : List Int) (j : Nat) : (filt (l.take j)).length ≤ j := Nat.le_trans (List.length_filter_le _ _) (by rw [List.length_take]; omega)
theorem first_none {l : List Int} (h : firstZ l = -1) : filt l = l := by
  unfold firstZ at h
  cases hf : l.findIdx? (fun x => x == 0) with
  | some i => rw [hf] at h; simp only at h; omega
  | none =>
    rw [List.findIdx?_eq_none_iff] at hf
    unfold filt
    rw [List.filter_eq_self]
    intro x hx
    have := hf x hx
    simpa [bne] using this
theorem first_some {l : List Int} {i : Nat} (h : firstZ l = (i : Int)) : i < l.length ∧ filt (l.take i) = l.take i ∧ filt (l.take (i + 1)) = l.take i := by
  unfold firstZ at h
  cases hf : l.findIdx? (fun x => x == 0) with
  | none => rw [hf] at h; simp only at h; omega
  | some j =>
    rw [hf] at h
    obtain rfl : j = i := by have h' : (j : Int) = (i : Int) := h; omega
    rw [List.findIdx?_eq_some_iff_getElem] at hf
    obtain ⟨hi, hx, hb⟩ := hf
    have e1 : filt (l.take j) = l.take j := by
      unfold filt
      rw [List.filter_eq_self]
      intro x hx
      obtain ⟨m, hm, rfl⟩ := List.getElem_of_mem hx
      rw [List.length_take] at hm
      have := hb m (by omega)
      rw [List.getElem_take]
      simpa [bne] using this
    refine ⟨hi, e1, ?_⟩
    rw [filt_snoc l j hi, e1, List.getD_eq_getElem?_getD, List.getElem?_eq_getElem hi]
    simp only [Option.getD_some]
    rw [if_pos hx, List.append_nil]
theorem first_cases (l : List Int) : firstZ l = -1 ∨ ∃ i : Nat, firstZ l = (i : Int) := by
  unfold firstZ
  cases l.findIdx? (fun x => x == 0) with
  | none => exact .inl rfl
  | some i => exact .inr ⟨i, rfl⟩
theorem zeroU32 : (Try.prog.info? 24).map (·.zero) = some (some (.int .u32 0)) := by kernel_rfl
set_option maxHeartbeats 1000000 in
set_option maxRecDepth 100000 in
theorem del_any (g n cap : Nat) (l : List Int) (w w0 : World) (hb0 : Below w0.heap.size w0 w) (hcap : cap ≤ 9223372036854775807) (ho : w.ownsRow w0.heap.size 24 1 (.slice (some ⟨g, 0, none⟩) n cap) n (nums .u32 l)) :
    Calls Try.prog 43 #[.slice (some ⟨g, 0, none⟩) n cap, .func (.func 44) #[] #[]] w fun e w' => e = .returned (.slice (some ⟨g, 0, none⟩) (filt l).length cap) ∧ ReadsInt w' .u32 (some ⟨g, 0, none⟩) (filt l).length (filt l) ∧ (filt l).length ≤ cap ∧ Below w0.heap.size w0 w' := by
  have hr := own_reads' ho
  have hnc := own_le ho
  have hl : l.length = n := hr.1
  subst hl
  have HB0 := Aside0.mk hb0
  have HO := Aside0.mk ho
  have HR := Aside0.mk hr
  have GG := Aside0.mk (own_base ho g rfl)
  clear hb0 ho hr
  rcases first_cases l with hf | ⟨i, hf⟩
  · have he := first_none hf
    rw [he]
    have HF := Aside0.mk hf
    clear hf he
    go_enter Try.func43, Try.ntmps43
    go_wp2_with (first | (go_at_call 48; refine (indexz_any _ l.length cap l _ HR.out).mono ?_; rw [HF.out]; rintro e w' ⟨rfl, rfl⟩))
    go_ret
    exact ⟨rfl, HR.out, hnc, HB0.out⟩
  · obtain ⟨hil, _, hf1⟩ := first_some hf
    have hi0 : ¬ (i : Int) = -1 := by omega
    have hi1 : ((i : Int) == -1) = false := by simp
    have hn63 : l.length ≤ 9223372036854775807 := HR.out.2.1
    have HF := Aside0.mk hf
    have HF1 := Aside0.mk hf1
    clear hf hf1
    go_enter Try.func43, Try.ntmps43
    go_wp2_with (first | (go_at_call 48; refine (indexz_any _ l.length cap l _ HR.out).mono ?_; rw [HF.out]; rintro e w' ⟨rfl, rfl⟩))
    go_loopw [5, 6] (fun a b wr => ∃ (p j : Nat), j ≤ l.length ∧ p < j ∧ a = .int .i64 p ∧ b = .int .i64 j ∧ Aside0 (p = (filt (l.take j)).length) ∧ Aside0 (∃ R : List Int, R.length = l.length ∧ R.take p = filt (l.take j) ∧ R.drop j = l.drop j ∧ wr.ownsRow w0.heap.size 24 1 (.slice (some ⟨g, 0, none⟩) l.length cap) l.length (nums .u32 R)) ∧ Aside0 (Below w0.heap.size w0 wr)) (fun _ b _ => l.length - (intOf b).toNat)
    case atStart => exact ⟨i, i + 1, by omega, by omega, rfl, by go_num, ⟨by rw [HF1.out, List.length_take]; omega⟩, ⟨l, rfl, HF1.out.symm, rfl, HO.out⟩, HB0⟩
    case round =>
      obtain ⟨p, j, hj, hpj, rfl, rfl, HP, HR1, HB⟩ := hrel
      clear HB0 HR HO HF1
      have hp0 : (0 : Int) ≤ (p : Int) := Int.natCast_nonneg _
      have hj0 : (0 : Int) ≤ (j : Int) := Int.natCast_nonneg _
      by_cases hlt : j < l.length
      · have hlt' : (j : Int) < (l.length : Int) := by omega
        have hpl : (p : Int) < (l.length : Int) := by omega
        obtain ⟨R, hRl, hRp, hRj, hown⟩ := HR1.out
        obtain ⟨q0, _⟩ := own_at hown j hj0 hlt'
        obtain ⟨q1, q2⟩ := own_at hown p hp0 hpl
        rw [Int.toNat_natCast] at q0 q1 q2
        have hxj : rd R (j : Int) = l.getD j 0 := by
          unfold rd
          rw [Int.toNat_natCast, List.getD_eq_getElem?_getD, List.getD_eq_getElem?_getD]
          have := congrArg (fun t => t[0]?) hRj
          simp only [List.getElem?_drop, Nat.add_zero] at this
          rw [this]
        have hsn := filt_snoc l j hlt
        rw [hxj] at q0
        obtain ⟨x, hx⟩ : ∃ x, l.getD j 0 = x := ⟨_, rfl⟩
        rw [hx] at q0 hsn
        obtain ⟨y, hy⟩ : ∃ y, rd R (p : Int) = y := ⟨_, rfl⟩
        rw [hy] at q1
        have HSN := Aside0.mk hsn
        have HRR := Aside0.mk (show R.length = l.length ∧ R.take p = filt (l.take j) ∧ R.drop j = l.drop j from ⟨hRl, hRp, hRj⟩)
        have HOW := Aside0.mk hown
        clear hx hy hxj hsn hRl hRp hRj hown HR1
        by_cases hz : (x == 0) = true
        · go_wp2_with (first | (go_at_call 44; refine (isZero_any _ _).mono ?_; rintro e w' ⟨rfl, rfl⟩))
          go_roundw
          case rel => exact ⟨p, j + 1, by omega, by omega, rfl, by go_num, ⟨by rw [HSN.out, if_pos (by first | rfl | exact hz), List.append_nil]; exact HP.out⟩, ⟨R, HRR.out.1, by rw [HSN.out, if_pos (by first | rfl | exact hz), List.append_nil]; exact HRR.out.2.1, by have := congrArg (List.drop 1) HRR.out.2.2; rwa [List.drop_drop, List.drop_drop] at this, HOW.out⟩, HB⟩
          case measure => simp [intOf]; omega
        · have hz' : (x == 0) = false := by simpa using hz
          have hzf : ¬ x = 0 := by simpa using hz
          go_wp2_with (first | (go_at_call 44; refine (isZero_any _ _).mono ?_; rintro e w' ⟨rfl, rfl⟩))
          go_roundw
          case rel =>
            have hs := own_store HOW.out (p : Int) x
            rw [Int.toNat_natCast] at hs
            have hpR : p < R.length := by have := HRR.out.1; omega
            refine ⟨p + 1, j + 1, by omega, by omega, by go_num, by go_num, ⟨by rw [HSN.out, if_neg hz, List.length_append, ← HP.out]; rfl⟩, ⟨R.set p x, by rw [List.length_set]; exact HRR.out.1, ?_, ?_, hs.1⟩, ⟨pw_below_grown HB.out _ HB.out.size hs.2 (fun q e => by cases e; exact GG.out)⟩⟩
            · rw [HSN.out, if_neg hz, ← HRR.out.2.1, List.take_succ_eq_append_getElem (by rw [List.length_set]; exact hpR), List.getElem_set_self, List.take_set_of_le (Nat.le_refl _)]
            · have := congrArg (List.drop 1) HRR.out.2.2
              rw [List.drop_drop, List.drop_drop] at this
              rw [List.drop_set_of_lt (by omega)]
              exact this
          case measure => simp [intOf]; omega
      · obtain rfl : j = l.length := by omega
        obtain ⟨R, hRl, hRp, _, hown⟩ := HR1.out
        have hpl : (p : Int) ≤ (l.length : Int) := by omega
        have hpc : p ≤ cap := by omega
        have hpc' : (p : Int) ≤ (cap : Int) := by omega
        have hlc : (l.length : Int) ≤ (cap : Int) := by omega
        have hne1 : ¬ cap - p = 0 := by omega
        have hne2 : ¬ cap = p := by omega
        rw [List.take_length] at hRp
        have hP := HP.out
        rw [List.take_length] at hP
        rcases hown.2 with ⟨he, _⟩ | ⟨g', cap', cur, he, hbb, hh, hnc', hcm, hcs, htake⟩
        · cases he
        · cases he
          have HH := Aside0.mk (show wr.heap[g]? = some (.cells cur.toList.toArray 24 (0, 0)) from by simpa using hh)
          have HCS := Aside0.mk (show cur.toList.length = cap from by simpa using hcs)
          have HTK := Aside0.mk (show cur.toList.take p = nums .u32 (filt l) from by
            have e1 := congrArg (List.take p) htake
            rw [List.take_take, Nat.mul_one, Nat.min_eq_left (by omega)] at e1
            rw [e1, ← hRp]; simp [nums, List.map_take])
          have HPP := Aside0.mk hP
          clear hown hRl hRp hP hh hcs htake HR1
          go_wp2_with (first | ((with_reducible refine gate_dst (N := 41) rfl ?_); fail) | (refine ev_clear rfl (.tmp 38) 71 24 .u32 rfl Try.underlying71 zeroU32 g p (l.length - p) (cap - p) (by first | rfl | (go_simp; done)) (by omega) cur.toList 24 HH.out (by have := HCS.out; omega) ?_; intro w9 hbox hg; have BX9 := Aside0.mk hbox; have HB9 := Aside0.mk (pw_below_grown HB.out _ HB.out.size hg (fun q e => by cases e; exact GG.out)); clear hbox hg))
          go_ret
          rw [← HPP.out]
          refine ⟨rfl, ?_, hpc, HB9.out⟩
          refine ⟨HPP.out.symm, by omega, fun hp => ⟨_, rfl, fun m hm => ?_⟩⟩
          rw [Addr.add_mid, Nat.zero_add, blk_cell BX9.out, List.getElem?_toArray, List.append_assoc, List.getElem?_append_left (by rw [List.length_take]; have := HCS.out; omega), HTK.out]
          have : m < (filt l).length := by rw [← HPP.out]; exact hm
          simp [nums, List.getD_eq_getElem?_getD, List.getElem?_eq_getElem this]
end Go.Proofs.YtgiapegacbibeaaX
