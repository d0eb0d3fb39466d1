import Derived.Test.YtneanbckmekdkaaDoorEMay
section
/- entry.Find: the walk. -/
namespace Go.Proofs.YtneanbckmekdkaaDoor.EN
open Go Go.RowKit Go.Proofs.YtneanbckmekdkaaDoorX Go.Proofs.YtneanbckmekdkaaDoor.NM Go.Proofs.YtneanbckmekdkaaDoorW.PrintWords Go.Proofs.YtneanbckmekdkaaDoorW.PrintLast Go.Proofs.YtneanbckmekdkaaDoorW.PrintMore Go.Proofs.YtneanbckmekdkaaDoor.PEntryForms
set_option linter.unusedVariables false
set_option linter.unusedSimpArgs false
theorem cellE_zero (a : Int) (s : ByteArray) : (cellsE a s)[0]? = some (.int .i64 a) := rfl
theorem cellE_one (a : Int) (s : ByteArray) : (cellsE a s)[1]? = some (.string s) := rfl
set_option maxHeartbeats 1000000 in
theorem behind_any (a : Int) (s nm : ByteArray) (g : Nat) (w : World) (hc : w.cell? ⟨g, 0, none⟩ = some (.string nm)) (hs : s.size ≤ 17592186044416) (hn : nm.size ≤ 17592186044416) :
    Calls Tryd.prog 35 #[.agg (cellsE a s), .pointer (some ⟨g, 0, none⟩)] w fun e w' => e = .returned (.bool (decide (0 ≤ NM.ahead s.data.toList nm.data.toList))) ∧ Below w.heap.size w w' := by
  obtain ⟨C, HC⟩ : ∃ b, Aside0 (NM.ahead s.data.toList nm.data.toList = b) := ⟨_, ⟨rfl⟩⟩
  rw [HC.out]
  have HS := Aside0.mk hs
  have HN := Aside0.mk hn
  clear hs hn
  go_enter Tryd.func35, Tryd.ntmps35
  go_wp2_with (first
    | ((with_reducible refine gate_dst (N := 2) rfl ?_); refine box_event ?hg (N := 2) ?hd (cs := cellsE a s) (t := 42) ?hr ?_; (case hd => rfl); (case hg => rfl); (case hr => first | (go_simp; done) | (go_simp; rfl) | kernel_rfl); intro gg hg w1 hbox hb; have HB1 := Aside0.mk hb; have d1 : w1.cell? ⟨gg, 1, none⟩ = some (.string s) := (blk_cell hbox 1).trans (cellE_one a s); have d0 : w1.cell? ⟨gg, 0, none⟩ = some (.int .i64 a) := (blk_cell hbox 0).trans (cellE_zero a s); have hc1 := pw_cell_below hb hc; clear hb hbox hg)
    | (go_at_call 31; refine (compare_any s nm _ HS.out HN.out).mono ?_; rw [HC.out]; rintro e w2 ⟨rfl, hb⟩; have HB2 := Aside0.mk (below_step HB1.out hb); clear hb))
  go_ret
  exact ⟨rfl, HB2.out⟩
/-- Whether an entry is not ahead of a name. -/
def geAt (l : List S42) (nm : ByteArray) (i : Nat) : Bool := decide (0 ≤ NM.ahead (nameAt l i).data.toList nm.data.toList)
/-- How many entries stand ahead of a name. -/
def atE (l : List S42) (nm : ByteArray) : Nat := ((List.range l.length).takeWhile fun i => !(geAt l nm i)).length
theorem takeWhile_range {n : Nat} {p : Nat → Bool} : ((List.range n).takeWhile p).length ≤ n ∧ (∀ i, i < ((List.range n).takeWhile p).length → p i = true) ∧ (((List.range n).takeWhile p).length < n → p ((List.range n).takeWhile p).length = false) := by
  have key : ∀ (m k : Nat), (((List.range' k m).takeWhile p).length ≤ m) ∧ (∀ i, i < ((List.range' k m).takeWhile p).length → p (k + i) = true) ∧ (((List.range' k m).takeWhile p).length < m → p (k + ((List.range' k m).takeWhile p).length) = false) := by
    intro m
    induction m with
    | zero => intro k; simp
    | succ m ih =>
      intro k
      rw [List.range'_succ, List.takeWhile_cons]
      obtain ⟨h1, h2, h3⟩ := ih (k + 1)
      by_cases hp : p k = true
      · rw [if_pos hp, List.length_cons]
        refine ⟨by omega, fun i hi => ?_, fun h => ?_⟩
        · match i with
          | 0 => exact hp
          | i + 1 => rw [show k + (i + 1) = k + 1 + i by omega]; exact h2 i (by omega)
        · rw [show k + (((List.range' (k + 1) m).takeWhile p).length + 1) = k + 1 + ((List.range' (k + 1) m).takeWhile p).length by omega]
          exact h3 (by omega)
      · rw [if_neg hp]
        exact ⟨by simp, fun i hi => absurd hi (by simp), fun _ => by simpa using hp⟩
  have := key n 0
  simpa [List.range_eq_range'] using this
theorem atE_le (l : List S42) (nm : ByteArray) : atE l nm ≤ l.length := takeWhile_range.1
theorem atE_lt {l : List S42} {nm : ByteArray} {i : Nat} (h : i < atE l nm) : geAt l nm i = false := by
  have := takeWhile_range.2.1 i h
  simpa using this
theorem atE_at {l : List S42} {nm : ByteArray} (h : atE l nm < l.length) : geAt l nm (atE l nm) = true := by
  have := takeWhile_range.2.2 h
  unfold atE
  simpa using this
theorem atE_is {l : List S42} {nm : ByteArray} {j : Nat} (hj : j ≤ l.length) (h1 : ∀ i, i < j → geAt l nm i = false) (h2 : j < l.length → geAt l nm j = true) : atE l nm = j := by
  rcases Nat.lt_trichotomy (atE l nm) j with h | h | h
  · have := h1 _ h
    rw [atE_at (by omega)] at this
    cases this
  · exact h
  · have := h2 (by have := atE_le l nm; omega)
    rw [atE_lt h] at this
    cases this
def ixE (l : List S42) (nm : ByteArray) : Int := if atE l nm < l.length then (atE l nm : Int) else -1
set_option maxHeartbeats 2000000 in
theorem index_any (A : Option Addr) (c : Nat) (l : List S42) (nm : ByteArray) (g : Nat) (w : World) (hr : Row w A l) (hlz : l.length ≤ 9223372036854775807) (hz : ∀ x ∈ l, x.f1.size ≤ 17592186044416) (hc : w.cell? ⟨g, 0, none⟩ = some (.string nm)) (hn : nm.size ≤ 17592186044416) :
    Calls Tryd.prog 34 #[.slice A l.length c, .func (.func 35) #[] #[.pointer (some ⟨g, 0, none⟩)]] w fun e w' => e = .returned (.int .i64 (ixE l nm)) ∧ Below w.heap.size w w' := by
  have hu42 := Aside0.mk Tryd.underlying42
  have HR := Aside0.mk hr
  have HZ := Aside0.mk hz
  have HC := Aside0.mk hc
  have HN := Aside0.mk hn
  obtain ⟨X, hX⟩ : ∃ X, ixE l nm = X := ⟨_, rfl⟩
  rw [hX]
  have HX := Aside0.mk hX
  clear hr hz hc hn hX
  go_enter Tryd.func34, Tryd.ntmps34
  go_wp2
  go_loopw [8] (fun i wr => ∃ j : Nat, j ≤ l.length ∧ i = .int .i64 j ∧ Aside0 (Below w.heap.size w wr) ∧ Aside0 (∀ k, k < j → geAt l nm k = false)) (fun i _ => l.length - (intOf i).toNat)
  case atStart => exact ⟨0, Nat.zero_le _, rfl, ⟨Below.refl _ _⟩, ⟨fun k hk => absurd hk (Nat.not_lt_zero _)⟩⟩
  case round =>
    obtain ⟨j, hj, rfl, HW, HK⟩ := hrel
    by_cases hlt : j < l.length
    · have hlt' : (j : Int) < (l.length : Int) := by omega
      have hj0 : (0 : Int) ≤ (j : Int) := Int.natCast_nonneg _
      have HJ := Aside0.mk hlt
      obtain ⟨ad, rfl, c0, c1⟩ := (HR.out.below HW.out).at_ hlt
      have HSZ := Aside0.mk (show (nameAt l j).size ≤ 17592186044416 from by
        unfold nameAt rd_T42
        rw [Int.toNat_natCast, List.getD_eq_getElem?_getD, List.getElem?_eq_getElem hlt]
        exact HZ.out _ (List.getElem_mem _))
      have hg : geAt l nm j = _ := rfl
      obtain ⟨ino, hino⟩ : ∃ x, inoAt l j = x := ⟨_, rfl⟩
      obtain ⟨G, hG⟩ : ∃ b, geAt l nm j = b := ⟨_, rfl⟩
      obtain ⟨s, hs⟩ : ∃ x, nameAt l j = x := ⟨_, rfl⟩
      have hG2 := hG
      unfold geAt at hG2
      rw [hino] at c0
      rw [hs] at c1 HSZ hG2
      have HG := Aside0.mk hG
      have HG2 := Aside0.mk hG2
      have HCW := Aside0.mk (pw_cell_below HW.out HC.out)
      clear hg hG hG2 hino hs hlt hj
      cases G with
      | true =>
        obtain rfl : X = (j : Int) := by
          rw [← HX.out]
          unfold ixE
          rw [atE_is (by have := HJ.out; omega) HK.out (fun _ => HG.out), if_pos HJ.out]
        go_wp2_with (first
          | ((with_reducible refine gate_dst (N := 15) rfl ?_); refine wpList_load_pair rfl 42 (.tmp 14) (by kernel_rfl) _ (by go_simp; rfl) _ _ _ c0 c1 hu42.out rfl (by kernel_rfl) ?_)
          | (go_at_call 35; refine (behind_any ino s nm g _ HCW.out HSZ.out HN.out).mono ?_; rw [HG2.out]; rintro e w1 ⟨rfl, hb⟩; have HB1 := Aside0.mk (HW.out.trans (hb.mono (below_size HW.out))); clear hb))
        go_ret
        exact ⟨rfl, HB1.out⟩
      | false =>
        go_wp2_with (first
          | ((with_reducible refine gate_dst (N := 15) rfl ?_); refine wpList_load_pair rfl 42 (.tmp 14) (by kernel_rfl) _ (by go_simp; rfl) _ _ _ c0 c1 hu42.out rfl (by kernel_rfl) ?_)
          | (go_at_call 35; refine (behind_any ino s nm g _ HCW.out HSZ.out HN.out).mono ?_; rw [HG2.out]; rintro e w1 ⟨rfl, hb⟩; have HB1 := Aside0.mk (HW.out.trans (hb.mono (below_size HW.out))); clear hb))
        go_roundw
        case rel => exact ⟨j + 1, HJ.out, by go_num, HB1, ⟨fun k hk => by
            by_cases h : k = j
            · rw [h]; exact HG.out
            · exact HK.out k (by omega)⟩⟩
        case measure => simp [intOf]; have := HJ.out; omega
    · obtain rfl : j = l.length := by omega
      obtain rfl : X = -1 := by
        rw [← HX.out]
        unfold ixE
        rw [atE_is (Nat.le_refl _) HK.out (fun h => absurd h (Nat.lt_irrefl _)), if_neg (Nat.lt_irrefl _)]
      clear hlt hj
      go_wp2
      go_ret
      exact ⟨rfl, HW.out⟩
/-- Whether a name stands there. -/
def isE (l : List S42) (nm : ByteArray) : Bool := decide (atE l nm < l.length) && (nameAt l (atE l nm)).toList == nm.toList
set_option maxHeartbeats 2000000 in
set_option maxRecDepth 100000 in
theorem find_any (A : Option Addr) (c : Nat) (l : List S42) (nm : ByteArray) (w : World) (hr : Row w A l) (hlz : l.length ≤ 9223372036854775807) (hz : ∀ x ∈ l, x.f1.size ≤ 17592186044416) (hn : nm.size ≤ 17592186044416) :
    Calls Tryd.prog 18 #[.slice A l.length c, .string nm] w fun e w' => e = .returned (.tuple #[.int .i64 (atE l nm : Int), .bool (isE l nm)]) ∧ Below w.heap.size w w' := by
  have HR := Aside0.mk hr
  have HZ := Aside0.mk hz
  have HN := Aside0.mk hn
  have HL := Aside0.mk hlz
  by_cases hat : atE l nm < l.length
  · obtain ⟨J, hJ⟩ : ∃ J, atE l nm = J := ⟨_, rfl⟩
    have hx : ixE l nm = (J : Int) := by unfold ixE; rw [if_pos hat, hJ]
    have hi : isE l nm = ((nameAt l J).toList == nm.toList) := by unfold isE; rw [decide_eq_true hat, Bool.true_and, hJ]
    rw [hJ] at hat
    rw [hi, hJ]
    obtain ⟨s, hs⟩ : ∃ s, nameAt l J = s := ⟨_, rfl⟩
    obtain ⟨B, HE⟩ : ∃ b, Aside0 ((s.toList == nm.toList) = b) := ⟨_, ⟨rfl⟩⟩
    rw [hs, HE.out]
    have HX := Aside0.mk hx
    have HA := Aside0.mk hat
    have HS := Aside0.mk hs
    have j0 : (0 : Int) ≤ (J : Int) := Int.natCast_nonneg _
    have j1 : (J : Int) < (l.length : Int) := by omega
    have j2 : ¬ ((J : Int) < 0) := by omega
    clear hr hz hn hx hi hat hJ hs hlz
    go_enter Tryd.func18, Tryd.ntmps18
    go_wp2_with (first | ((with_reducible refine gate_dst (N := 3) rfl ?_); refine box_event ?hg (N := 3) ?hd (cs := #[.string nm]) (t := 9) ?hr ?_; (case hd => rfl); (case hg => rfl); (case hr => first | (go_simp; done) | (go_simp; rfl) | kernel_rfl); intro gg hg w1 hbox hb; have HB1 := Aside0.mk hb; have c0 : w1.cell? ⟨gg, 0, none⟩ = some (.string nm) := (blk_cell hbox 0).trans rfl; clear hb hbox hg) | (go_at_call 34; refine (index_any A c l nm gg _ (HR.out.below HB1.out) HL.out HZ.out c0 HN.out).mono ?_; rw [HX.out]; rintro e w2 ⟨rfl, hb⟩; have HB2 := Aside0.mk (below_step HB1.out hb); have CB := Aside0.mk (pw_cell_below hb c0); clear hb))
    obtain ⟨ad, rfl, _, cn⟩ := (HR.out.below HB2.out).at_ HA.out
    rw [HS.out] at cn
    have CN := Aside0.mk cn
    clear cn
    refine wp_region_held_drew (S := fun W => Below w2.heap.size w2 W) (by kernel_rfl) (below_drew (Below.refl w2.heap.size w2)) (fun hHeld => ?_)
    refine wpAnyH_take (i := 0) (oi := ⟨some 14, _, _, _, _, _⟩) (v := (.int .i64 (J : Int))) rfl (by kernel_rfl) (by kernel_rfl) (by kernel_rfl) (fun _ _ _ h => h) (Or.inl ⟨by rfl, fun W hS => by go_simp⟩) hHeld ?_
    (try simp only [Act.put, List.setIfInBounds_toArray, List.set_cons_zero, List.set_cons_succ])
    refine wpAnyH_take (i := 1) (oi := ⟨some 15, _, _, _, _, _⟩) (v := (.slice (some ad) l.length c)) rfl (by kernel_rfl) (by kernel_rfl) (by kernel_rfl) (fun _ _ _ h => h) (Or.inl ⟨by rfl, fun W hS => by go_simp⟩) hHeld ?_
    (try simp only [Act.put, List.setIfInBounds_toArray, List.set_cons_zero, List.set_cons_succ])
    refine wpAnyH_take (i := 2) (oi := ⟨some 16, _, _, _, _, _⟩) (v := (.int .i64 (J : Int))) rfl (by kernel_rfl) (by kernel_rfl) (by kernel_rfl) (fun _ _ _ h => h) (Or.inl ⟨by rfl, fun W hS => by go_simp⟩) hHeld ?_
    (try simp only [Act.put, List.setIfInBounds_toArray, List.set_cons_zero, List.set_cons_succ])
    refine wpAnyH_take (i := 3) (oi := ⟨some 17, _, _, _, _, _⟩) (v := (.pointer (some (ad.add (J * 2))))) rfl (by kernel_rfl) (by kernel_rfl) (by kernel_rfl) (fun _ _ _ h => h) (Or.inl ⟨by rfl, fun W hS => by go_simp⟩) hHeld ?_
    (try simp only [Act.put, List.setIfInBounds_toArray, List.set_cons_zero, List.set_cons_succ])
    refine wpAnyH_take (i := 4) (oi := ⟨some 18, _, _, _, _, _⟩) (v := (.pointer (some ⟨(ad.add (J * 2)).block, (ad.add (J * 2)).off + 1, none⟩))) rfl (by kernel_rfl) (by kernel_rfl) (by kernel_rfl) (fun _ _ _ h => h) (Or.inl ⟨by rfl, fun W hS => by go_simp⟩) hHeld ?_
    (try simp only [Act.put, List.setIfInBounds_toArray, List.set_cons_zero, List.set_cons_succ])
    refine wpAnyH_take (i := 5) (oi := ⟨some 19, _, _, _, _, _⟩) (v := (.string s)) rfl (by kernel_rfl) (by kernel_rfl) (by kernel_rfl) (fun _ _ _ h => h) (Or.inl ⟨by rfl, fun W hS => by have cc := pw_cell_below hS CN.out; go_simp⟩) hHeld ?_
    (try simp only [Act.put, List.setIfInBounds_toArray, List.set_cons_zero, List.set_cons_succ])
    refine wpAnyH_take (i := 6) (oi := ⟨some 20, _, _, _, _, _⟩) (v := (.string nm)) rfl (by kernel_rfl) (by kernel_rfl) (by kernel_rfl) (fun _ _ _ h => h) (Or.inl ⟨by rfl, fun W hS => by have cc := pw_cell_below hS CB.out; go_simp⟩) hHeld ?_
    (try simp only [Act.put, List.setIfInBounds_toArray, List.set_cons_zero, List.set_cons_succ])
    refine wpAnyH_take (i := 7) (oi := ⟨some 21, _, _, _, _, _⟩) (v := (.bool B)) rfl (by kernel_rfl) (by kernel_rfl) (by kernel_rfl) (fun _ _ _ h => h) (Or.inl ⟨by rfl, fun W hS => by go_simp; exact HE.out⟩) hHeld ?_
    (try simp only [Act.put, List.setIfInBounds_toArray, List.set_cons_zero, List.set_cons_succ])
    refine wpAnyH_take (i := 8) (oi := ⟨some 4, _, _, _, _, _⟩) (v := (.int .i64 (J : Int))) rfl (by kernel_rfl) (by kernel_rfl) (by kernel_rfl) (fun _ _ _ h => h) (Or.inl ⟨by rfl, fun W hS => by go_simp⟩) hHeld ?_
    (try simp only [Act.put, List.setIfInBounds_toArray, List.set_cons_zero, List.set_cons_succ])
    refine wpAnyH_take (i := 9) (oi := ⟨some 5, _, _, _, _, _⟩) (v := (.bool B)) rfl (by kernel_rfl) (by kernel_rfl) (by kernel_rfl) (fun _ _ _ h => h) (Or.inl ⟨by rfl, fun W hS => by go_simp⟩) hHeld ?_
    (try simp only [Act.put, List.setIfInBounds_toArray, List.set_cons_zero, List.set_cons_succ])
    refine wpAnyH_done (by kernel_rfl) ?_ _
    have HF := Aside0.mk (below_step HB2.out hHeld)
    clear hHeld
    (try simp only [Exit.then])
    go_wp2
    go_ret2
    exact ⟨rfl, HF.out⟩
  · have hx : ixE l nm = -1 := by unfold ixE; rw [if_neg hat]
    have hi : isE l nm = false := by unfold isE; rw [decide_eq_false hat, Bool.false_and]
    have ha : atE l nm = l.length := by have := atE_le l nm; omega
    rw [hi, ha]
    have HX := Aside0.mk hx
    clear hr hz hn hx hi hat ha hlz
    go_enter Tryd.func18, Tryd.ntmps18
    go_wp2_with (first | ((with_reducible refine gate_dst (N := 3) rfl ?_); refine box_event ?hg (N := 3) ?hd (cs := #[.string nm]) (t := 9) ?hr ?_; (case hd => rfl); (case hg => rfl); (case hr => first | (go_simp; done) | (go_simp; rfl) | kernel_rfl); intro gg hg w1 hbox hb; have HB1 := Aside0.mk hb; have c0 : w1.cell? ⟨gg, 0, none⟩ = some (.string nm) := (blk_cell hbox 0).trans rfl; clear hb hbox hg) | (go_at_call 34; refine (index_any A c l nm gg _ (HR.out.below HB1.out) HL.out HZ.out c0 HN.out).mono ?_; rw [HX.out]; rintro e w2 ⟨rfl, hb⟩; have HB2 := Aside0.mk (below_step HB1.out hb); have CB := Aside0.mk (pw_cell_below hb c0); clear hb))
    go_ret2
    exact ⟨rfl, HB2.out⟩
end Go.Proofs.YtneanbckmekdkaaDoor.EN

end

section
/- entry.Insert: where it refuses: the walk. -/
namespace Go.Proofs.YtneanbckmekdkaaDoor.EN
open Go Go.RowKit Go.Proofs.YtneanbckmekdkaaDoorX Go.Proofs.YtneanbckmekdkaaDoor.NM Go.Proofs.YtneanbckmekdkaaDoorW.PrintWords Go.Proofs.YtneanbckmekdkaaDoorW.PrintLast Go.Proofs.YtneanbckmekdkaaDoorW.PrintMore Go.Proofs.YtneanbckmekdkaaDoor.PEntryForms
set_option linter.unusedVariables false
set_option linter.unusedSimpArgs false
/-- Why an entry may not be put in. -/
def insErr (l : List S42) (x : S42) : Option Int :=
  if mayE l = true then (if valid x.f1.data.toList = true then (if okIno x.f0 = true then (if isE l x.f1 = true then some 33 else (if 64 ≤ l.length then some 40 else none)) else some 1) else some 31) else some 1
set_option maxHeartbeats 2000000 in
theorem ins_may (A : Option Addr) (c : Nat) (l : List S42) (a : Int) (s : ByteArray) (w : World) (hr : Row w A l) (hz : ∀ x ∈ l, x.f1.size ≤ 17592186044416) (hn : s.size ≤ 17592186044416) (hT : Lib.Utf8Tabs 1 2 w) (HM : Aside0 (mayE l = false)) :
    Calls Tryd.prog 20 #[.slice A l.length c, .agg (cellsE a s)] w fun e w' => e = .returned (.tuple #[.slice none 0 0, .int .i64 1]) ∧ Below w.heap.size w w' := by
  have HR := Aside0.mk hr
  have HZ := Aside0.mk hz
  have HN := Aside0.mk hn
  have HT := Aside0.mk hT
  obtain ⟨J, HAT⟩ : ∃ J, Aside0 (atE l s = J) := ⟨_, ⟨rfl⟩⟩
  clear hr hz hn hT
  go_enter Tryd.func20, Tryd.ntmps20
  go_wp2_with (first
    | ((with_reducible refine gate_dst (N := 3) rfl ?_); refine box_event ?hg (N := 3) ?hd (cs := cellsE a s) (t := 42) ?hr ?_; (case hd => rfl); (case hg => rfl); (case hr => first | (go_simp; done) | (go_simp; rfl) | kernel_rfl); intro gg hg w1 hbox hb; have HB1 := Aside0.mk hb; have BG := Aside0.mk hbox; have d1 : w1.cell? ⟨gg, 1, none⟩ = some (.string s) := (blk_cell hbox 1).trans (cellE_one a s); have d0 : w1.cell? ⟨gg, 0, none⟩ = some (.int .i64 a) := (blk_cell hbox 0).trans (cellE_zero a s); clear hb hbox hg)
    | (go_at_call 15; refine (may_any _ A c l (HR.out.below HB1.out) (Utf8Tabs_below HT.out HB1.out)).mono ?_; rw [HM.out]; rintro e w2 ⟨rfl, hb⟩; have HB2 := Aside0.mk (below_step HB1.out hb); have d1 := pw_cell_below hb d1; have d0 := pw_cell_below hb d0; have BG := Aside0.mk (blk_below BG.out hb); clear hb))
  go_ret2
  exact ⟨rfl, HB2.out⟩
set_option maxHeartbeats 2000000 in
theorem ins_name (A : Option Addr) (c : Nat) (l : List S42) (a : Int) (s : ByteArray) (w : World) (hr : Row w A l) (hz : ∀ x ∈ l, x.f1.size ≤ 17592186044416) (hn : s.size ≤ 17592186044416) (hT : Lib.Utf8Tabs 1 2 w) (HM : Aside0 (mayE l = true)) (HL : Aside0 (l.length ≤ 9223372036854775807)) (E : Bool) (HE : Aside0 (isE l s = E)) (HV : Aside0 (valid s.data.toList = false)) :
    Calls Tryd.prog 20 #[.slice A l.length c, .agg (cellsE a s)] w fun e w' => e = .returned (.tuple #[.slice none 0 0, .int .i64 31]) ∧ Below w.heap.size w w' := by
  have HR := Aside0.mk hr
  have HZ := Aside0.mk hz
  have HN := Aside0.mk hn
  have HT := Aside0.mk hT
  obtain ⟨J, HAT⟩ : ∃ J, Aside0 (atE l s = J) := ⟨_, ⟨rfl⟩⟩
  clear hr hz hn hT
  go_enter Tryd.func20, Tryd.ntmps20
  go_wp2_with (first
    | ((with_reducible refine gate_dst (N := 3) rfl ?_); refine box_event ?hg (N := 3) ?hd (cs := cellsE a s) (t := 42) ?hr ?_; (case hd => rfl); (case hg => rfl); (case hr => first | (go_simp; done) | (go_simp; rfl) | kernel_rfl); intro gg hg w1 hbox hb; have HB1 := Aside0.mk hb; have BG := Aside0.mk hbox; have d1 : w1.cell? ⟨gg, 1, none⟩ = some (.string s) := (blk_cell hbox 1).trans (cellE_one a s); have d0 : w1.cell? ⟨gg, 0, none⟩ = some (.int .i64 a) := (blk_cell hbox 0).trans (cellE_zero a s); clear hb hbox hg)
    | (go_at_call 30; refine (valid_any s _ (by have := HN.out; omega) (Utf8Tabs_below HT.out HB3.out)).mono ?_; rw [HV.out]; rintro e w4 ⟨rfl, hb⟩; have HB4 := Aside0.mk (below_step HB3.out hb); have d1 := pw_cell_below hb d1; have d0 := pw_cell_below hb d0; have BG := Aside0.mk (blk_below BG.out hb); clear hb)
    | (go_at_call 18; refine (find_any A c l s _ (HR.out.below HB2.out) HL.out HZ.out HN.out).mono ?_; rw [HE.out, HAT.out]; rintro e w3 ⟨rfl, hb⟩; have HB3 := Aside0.mk (below_step HB2.out hb); have d1 := pw_cell_below hb d1; have d0 := pw_cell_below hb d0; have BG := Aside0.mk (blk_below BG.out hb); clear hb)
    | (go_at_call 15; refine (may_any _ A c l (HR.out.below HB1.out) (Utf8Tabs_below HT.out HB1.out)).mono ?_; rw [HM.out]; rintro e w2 ⟨rfl, hb⟩; have HB2 := Aside0.mk (below_step HB1.out hb); have d1 := pw_cell_below hb d1; have d0 := pw_cell_below hb d0; have BG := Aside0.mk (blk_below BG.out hb); clear hb))
  go_ret2
  exact ⟨rfl, HB4.out⟩
set_option maxHeartbeats 2000000 in
theorem ins_ino (A : Option Addr) (c : Nat) (l : List S42) (a : Int) (s : ByteArray) (w : World) (hr : Row w A l) (hz : ∀ x ∈ l, x.f1.size ≤ 17592186044416) (hn : s.size ≤ 17592186044416) (hT : Lib.Utf8Tabs 1 2 w) (HM : Aside0 (mayE l = true)) (HL : Aside0 (l.length ≤ 9223372036854775807)) (E : Bool) (HE : Aside0 (isE l s = E)) (HV : Aside0 (valid s.data.toList = true)) (HI : Aside0 (okIno a = false)) :
    Calls Tryd.prog 20 #[.slice A l.length c, .agg (cellsE a s)] w fun e w' => e = .returned (.tuple #[.slice none 0 0, .int .i64 1]) ∧ Below w.heap.size w w' := by
  have HR := Aside0.mk hr
  have HZ := Aside0.mk hz
  have HN := Aside0.mk hn
  have HT := Aside0.mk hT
  obtain ⟨J, HAT⟩ : ∃ J, Aside0 (atE l s = J) := ⟨_, ⟨rfl⟩⟩
  clear hr hz hn hT
  go_enter Tryd.func20, Tryd.ntmps20
  go_wp2_with (first
    | ((with_reducible refine gate_dst (N := 3) rfl ?_); refine box_event ?hg (N := 3) ?hd (cs := cellsE a s) (t := 42) ?hr ?_; (case hd => rfl); (case hg => rfl); (case hr => first | (go_simp; done) | (go_simp; rfl) | kernel_rfl); intro gg hg w1 hbox hb; have HB1 := Aside0.mk hb; have BG := Aside0.mk hbox; have d1 : w1.cell? ⟨gg, 1, none⟩ = some (.string s) := (blk_cell hbox 1).trans (cellE_one a s); have d0 : w1.cell? ⟨gg, 0, none⟩ = some (.int .i64 a) := (blk_cell hbox 0).trans (cellE_zero a s); clear hb hbox hg)
    | (go_at_call 29; refine (may_call a _).mono ?_; rw [HI.out]; rintro e w5 ⟨rfl, hb⟩; have HB5 := Aside0.mk (below_step HB4.out hb); have d1 := pw_cell_below hb d1; have d0 := pw_cell_below hb d0; have BG := Aside0.mk (blk_below BG.out hb); clear hb)
    | (go_at_call 30; refine (valid_any s _ (by have := HN.out; omega) (Utf8Tabs_below HT.out HB3.out)).mono ?_; rw [HV.out]; rintro e w4 ⟨rfl, hb⟩; have HB4 := Aside0.mk (below_step HB3.out hb); have d1 := pw_cell_below hb d1; have d0 := pw_cell_below hb d0; have BG := Aside0.mk (blk_below BG.out hb); clear hb)
    | (go_at_call 18; refine (find_any A c l s _ (HR.out.below HB2.out) HL.out HZ.out HN.out).mono ?_; rw [HE.out, HAT.out]; rintro e w3 ⟨rfl, hb⟩; have HB3 := Aside0.mk (below_step HB2.out hb); have d1 := pw_cell_below hb d1; have d0 := pw_cell_below hb d0; have BG := Aside0.mk (blk_below BG.out hb); clear hb)
    | (go_at_call 15; refine (may_any _ A c l (HR.out.below HB1.out) (Utf8Tabs_below HT.out HB1.out)).mono ?_; rw [HM.out]; rintro e w2 ⟨rfl, hb⟩; have HB2 := Aside0.mk (below_step HB1.out hb); have d1 := pw_cell_below hb d1; have d0 := pw_cell_below hb d0; have BG := Aside0.mk (blk_below BG.out hb); clear hb))
  go_ret2
  exact ⟨rfl, HB5.out⟩
set_option maxHeartbeats 2000000 in
theorem ins_there (A : Option Addr) (c : Nat) (l : List S42) (a : Int) (s : ByteArray) (w : World) (hr : Row w A l) (hz : ∀ x ∈ l, x.f1.size ≤ 17592186044416) (hn : s.size ≤ 17592186044416) (hT : Lib.Utf8Tabs 1 2 w) (HM : Aside0 (mayE l = true)) (HL : Aside0 (l.length ≤ 9223372036854775807)) (HE : Aside0 (isE l s = true)) (HV : Aside0 (valid s.data.toList = true)) (HI : Aside0 (okIno a = true)) :
    Calls Tryd.prog 20 #[.slice A l.length c, .agg (cellsE a s)] w fun e w' => e = .returned (.tuple #[.slice none 0 0, .int .i64 33]) ∧ Below w.heap.size w w' := by
  have HR := Aside0.mk hr
  have HZ := Aside0.mk hz
  have HN := Aside0.mk hn
  have HT := Aside0.mk hT
  obtain ⟨J, HAT⟩ : ∃ J, Aside0 (atE l s = J) := ⟨_, ⟨rfl⟩⟩
  clear hr hz hn hT
  go_enter Tryd.func20, Tryd.ntmps20
  go_wp2_with (first
    | ((with_reducible refine gate_dst (N := 3) rfl ?_); refine box_event ?hg (N := 3) ?hd (cs := cellsE a s) (t := 42) ?hr ?_; (case hd => rfl); (case hg => rfl); (case hr => first | (go_simp; done) | (go_simp; rfl) | kernel_rfl); intro gg hg w1 hbox hb; have HB1 := Aside0.mk hb; have BG := Aside0.mk hbox; have d1 : w1.cell? ⟨gg, 1, none⟩ = some (.string s) := (blk_cell hbox 1).trans (cellE_one a s); have d0 : w1.cell? ⟨gg, 0, none⟩ = some (.int .i64 a) := (blk_cell hbox 0).trans (cellE_zero a s); clear hb hbox hg)
    | (go_at_call 29; refine (may_call a _).mono ?_; rw [HI.out]; rintro e w5 ⟨rfl, hb⟩; have HB5 := Aside0.mk (below_step HB4.out hb); have d1 := pw_cell_below hb d1; have d0 := pw_cell_below hb d0; have BG := Aside0.mk (blk_below BG.out hb); clear hb)
    | (go_at_call 30; refine (valid_any s _ (by have := HN.out; omega) (Utf8Tabs_below HT.out HB3.out)).mono ?_; rw [HV.out]; rintro e w4 ⟨rfl, hb⟩; have HB4 := Aside0.mk (below_step HB3.out hb); have d1 := pw_cell_below hb d1; have d0 := pw_cell_below hb d0; have BG := Aside0.mk (blk_below BG.out hb); clear hb)
    | (go_at_call 18; refine (find_any A c l s _ (HR.out.below HB2.out) HL.out HZ.out HN.out).mono ?_; rw [HE.out, HAT.out]; rintro e w3 ⟨rfl, hb⟩; have HB3 := Aside0.mk (below_step HB2.out hb); have d1 := pw_cell_below hb d1; have d0 := pw_cell_below hb d0; have BG := Aside0.mk (blk_below BG.out hb); clear hb)
    | (go_at_call 15; refine (may_any _ A c l (HR.out.below HB1.out) (Utf8Tabs_below HT.out HB1.out)).mono ?_; rw [HM.out]; rintro e w2 ⟨rfl, hb⟩; have HB2 := Aside0.mk (below_step HB1.out hb); have d1 := pw_cell_below hb d1; have d0 := pw_cell_below hb d0; have BG := Aside0.mk (blk_below BG.out hb); clear hb))
  go_ret2
  exact ⟨rfl, HB5.out⟩
set_option maxHeartbeats 2000000 in
theorem ins_full (A : Option Addr) (c : Nat) (l : List S42) (a : Int) (s : ByteArray) (w : World) (hr : Row w A l) (hz : ∀ x ∈ l, x.f1.size ≤ 17592186044416) (hn : s.size ≤ 17592186044416) (hT : Lib.Utf8Tabs 1 2 w) (HM : Aside0 (mayE l = true)) (HL : Aside0 (l.length ≤ 9223372036854775807)) (HE : Aside0 (isE l s = false)) (HV : Aside0 (valid s.data.toList = true)) (HI : Aside0 (okIno a = true)) (hfull : (64 : Int) ≤ (l.length : Int)) :
    Calls Tryd.prog 20 #[.slice A l.length c, .agg (cellsE a s)] w fun e w' => e = .returned (.tuple #[.slice none 0 0, .int .i64 40]) ∧ Below w.heap.size w w' := by
  have HR := Aside0.mk hr
  have HZ := Aside0.mk hz
  have HN := Aside0.mk hn
  have HT := Aside0.mk hT
  obtain ⟨J, HAT⟩ : ∃ J, Aside0 (atE l s = J) := ⟨_, ⟨rfl⟩⟩
  clear hr hz hn hT
  go_enter Tryd.func20, Tryd.ntmps20
  go_wp2_with (first
    | ((with_reducible refine gate_dst (N := 3) rfl ?_); refine box_event ?hg (N := 3) ?hd (cs := cellsE a s) (t := 42) ?hr ?_; (case hd => rfl); (case hg => rfl); (case hr => first | (go_simp; done) | (go_simp; rfl) | kernel_rfl); intro gg hg w1 hbox hb; have HB1 := Aside0.mk hb; have BG := Aside0.mk hbox; have d1 : w1.cell? ⟨gg, 1, none⟩ = some (.string s) := (blk_cell hbox 1).trans (cellE_one a s); have d0 : w1.cell? ⟨gg, 0, none⟩ = some (.int .i64 a) := (blk_cell hbox 0).trans (cellE_zero a s); clear hb hbox hg)
    | (go_at_call 29; refine (may_call a _).mono ?_; rw [HI.out]; rintro e w5 ⟨rfl, hb⟩; have HB5 := Aside0.mk (below_step HB4.out hb); have d1 := pw_cell_below hb d1; have d0 := pw_cell_below hb d0; have BG := Aside0.mk (blk_below BG.out hb); clear hb)
    | (go_at_call 30; refine (valid_any s _ (by have := HN.out; omega) (Utf8Tabs_below HT.out HB3.out)).mono ?_; rw [HV.out]; rintro e w4 ⟨rfl, hb⟩; have HB4 := Aside0.mk (below_step HB3.out hb); have d1 := pw_cell_below hb d1; have d0 := pw_cell_below hb d0; have BG := Aside0.mk (blk_below BG.out hb); clear hb)
    | (go_at_call 18; refine (find_any A c l s _ (HR.out.below HB2.out) HL.out HZ.out HN.out).mono ?_; rw [HE.out, HAT.out]; rintro e w3 ⟨rfl, hb⟩; have HB3 := Aside0.mk (below_step HB2.out hb); have d1 := pw_cell_below hb d1; have d0 := pw_cell_below hb d0; have BG := Aside0.mk (blk_below BG.out hb); clear hb)
    | (go_at_call 15; refine (may_any _ A c l (HR.out.below HB1.out) (Utf8Tabs_below HT.out HB1.out)).mono ?_; rw [HM.out]; rintro e w2 ⟨rfl, hb⟩; have HB2 := Aside0.mk (below_step HB1.out hb); have d1 := pw_cell_below hb d1; have d0 := pw_cell_below hb d0; have BG := Aside0.mk (blk_below BG.out hb); clear hb))
  go_ret2
  exact ⟨rfl, HB5.out⟩
theorem ins_err (A : Option Addr) (c : Nat) (l : List S42) (a : Int) (s : ByteArray) (w : World) (hr : Row w A l) (hz : ∀ x ∈ l, x.f1.size ≤ 17592186044416) (hn : s.size ≤ 17592186044416) (hT : Lib.Utf8Tabs 1 2 w) (HL : l.length ≤ 9223372036854775807) (x : Int) (he : insErr l ⟨a, s⟩ = some x) :
    Calls Tryd.prog 20 #[.slice A l.length c, .agg (cellsE a s)] w fun e w' => e = .returned (.tuple #[.slice none 0 0, .int .i64 x]) ∧ Below w.heap.size w w' := by
  unfold insErr at he
  cases hm : mayE l with
  | false =>
    rw [hm] at he
    cases he
    exact ins_may A c l a s w hr hz hn hT ⟨hm⟩
  | true =>
    rw [hm, if_pos rfl] at he
    cases hv : valid s.data.toList with
    | false =>
      rw [hv] at he
      cases he
      exact ins_name A c l a s w hr hz hn hT ⟨hm⟩ ⟨HL⟩ _ ⟨rfl⟩ ⟨hv⟩
    | true =>
      rw [hv, if_pos rfl] at he
      cases hi : okIno a with
      | false =>
        rw [hi] at he
        cases he
        exact ins_ino A c l a s w hr hz hn hT ⟨hm⟩ ⟨HL⟩ _ ⟨rfl⟩ ⟨hv⟩ ⟨hi⟩
      | true =>
        rw [hi, if_pos rfl] at he
        cases hx : isE l s with
        | true =>
          rw [hx, if_pos rfl] at he
          cases he
          exact ins_there A c l a s w hr hz hn hT ⟨hm⟩ ⟨HL⟩ ⟨hx⟩ ⟨hv⟩ ⟨hi⟩
        | false =>
          rw [hx] at he
          by_cases hf : 64 ≤ l.length
          · rw [if_neg (by simp), if_pos hf] at he
            cases he
            exact ins_full A c l a s w hr hz hn hT ⟨hm⟩ ⟨HL⟩ ⟨hx⟩ ⟨hv⟩ ⟨hi⟩ (by omega)
          · rw [if_neg (by simp), if_neg hf] at he
            cases he
end Go.Proofs.YtneanbckmekdkaaDoor.EN

end
