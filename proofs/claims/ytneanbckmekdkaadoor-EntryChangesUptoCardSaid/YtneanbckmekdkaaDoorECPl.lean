/- Insert, Remove, Set: the program's and the document's, told alike. -/
import Derived.Test.YtneanbckmekdkaaDoorMIns
import Derived.Test.YtneanbckmekdkaaDoorECRef
import Derived.Test.YtneanbckmekdkaaDoorMRef
namespace Go.Proofs.YtneanbckmekdkaaDoor.EN
open Go Go.RowKit Go.Proofs.YtneanbckmekdkaaDoorX Go.Proofs.YtneanbckmekdkaaDoor.NM Go.Proofs.YtneanbckmekdkaaDoorW.PrintWords Go.Proofs.YtneanbckmekdkaaDoorW.PrintLast Go.Proofs.YtneanbckmekdkaaDoorW.PrintMore Go.Proofs.YtneanbckmekdkaaDoor.PEntryForms
open Go.Proofs.YtneanbckmekdkaaDoor.NMV (valid_f)
set_option linter.unusedVariables false
set_option linter.unusedSimpArgs false
def insR (l : List S42) (x : S42) : List S42 × Int := match insErr l x with | some y => ([], y) | none => (insE l (atE l x.f1) x, 0)
def remR (l : List S42) (nm : ByteArray) : List S42 × Int × Int := match remErr l nm with | some y => ([], 0, y) | none => (l.eraseIdx (atE l nm), inoAt l (atE l nm), 0)
def setR (l : List S42) (nm : ByteArray) (x : Int) : List S42 × Int × Int := match setErr l nm x with | some y => ([], 0, y) | none => (l.set (atE l nm) ⟨x, nameAt l (atE l nm)⟩, inoAt l (atE l nm), 0)
theorem isE_lt {l : List S42} {nm : ByteArray} (h : isE l nm = true) : atE l nm < l.length := by
  unfold isE at h
  rw [Bool.and_eq_true] at h
  exact of_decide_eq_true h.1
theorem isE_name {l : List S42} {nm : ByteArray} (h : isE l nm = true) : nameAt l (atE l nm) = nm := by
  unfold isE at h
  rw [Bool.and_eq_true, beq_iff_eq] at h
  have h2 := h.2
  rw [Lib.toList_data, Lib.toList_data] at h2
  exact ByteArray.ext (Array.toList_inj.1 h2)
theorem nameAt_mem {l : List S42} {i : Nat} (h : i < l.length) : ∃ x ∈ l, nameAt l i = x.f1 := ⟨l[i], List.getElem_mem h, (at_get h).2⟩
theorem insR_mem {l : List S42} {x y : S42} (h : y ∈ (insR l x).1) : y ∈ l ∨ y = x := by
  unfold insR at h
  split at h
  · cases h
  · simp only [insE, List.mem_append, List.mem_singleton] at h
    rcases h with (h | h) | h
    · exact .inl (List.mem_of_mem_take h)
    · exact .inr h
    · exact .inl (List.mem_of_mem_drop h)
theorem remErr_none {l : List S42} {nm : ByteArray} (h : remErr l nm = none) : mayE l = true ∧ isE l nm = true := by
  unfold remErr at h
  by_cases h1 : mayE l = true
  · rw [if_pos h1] at h
    by_cases h2 : isE l nm = true
    · exact ⟨h1, h2⟩
    · rw [if_neg h2] at h; cases h
  · rw [if_neg h1] at h; cases h
theorem setErr_none {l : List S42} {nm : ByteArray} {x : Int} (h : setErr l nm x = none) : mayE l = true ∧ okIno x = true ∧ isE l nm = true := by
  unfold setErr at h
  by_cases h1 : mayE l = true ∧ okIno x = true
  · rw [if_pos h1] at h
    by_cases h2 : isE l nm = true
    · exact ⟨h1.1, h1.2, h2⟩
    · rw [if_neg h2] at h; cases h
  · rw [if_neg h1] at h; cases h
theorem remR_mem {l : List S42} {nm : ByteArray} {y : S42} (h : y ∈ (remR l nm).1) : y ∈ l := by
  unfold remR at h
  split at h
  · cases h
  · exact List.mem_of_mem_eraseIdx h
theorem setR_mem {l : List S42} {nm : ByteArray} {x : Int} {y : S42} (h : y ∈ (setR l nm x).1) : ∃ z ∈ l, y.f1 = z.f1 := by
  unfold setR at h
  split at h
  · cases h
  · next he =>
    rcases List.mem_or_eq_of_mem_set h with h | rfl
    · exact ⟨y, h, rfl⟩
    · exact nameAt_mem (isE_lt (setErr_none he).2.2)
section
variable (A : Option Addr) (c : Nat) (l : List S42) (w : World) (hr : Row w A l) (hl : l.length ≤ 1048576) (hz : ∀ x ∈ l, x.f1.size ≤ 1048576) (hT : Lib.Utf8Tabs 1 2 w)
include hr hl hz hT
theorem ins_all (a : Int) (s : ByteArray) (hn : s.size ≤ 1048576) :
    Calls Tryd.prog 20 #[.slice A l.length c, .agg (cellsE a s)] w fun e w' => ∃ v, e = .returned (.tuple #[v, .int .i64 (insR l ⟨a, s⟩).2]) ∧ w'.ownsRow w.heap.size 42 2 v (insR l ⟨a, s⟩).1.length (rowsE (insR l ⟨a, s⟩).1) ∧ Below w.heap.size w w' := by
  have hz' : ∀ x ∈ l, x.f1.size ≤ 17592186044416 := fun x hx => Nat.le_trans (hz x hx) (by decide)
  cases he : insErr l ⟨a, s⟩ with
  | some y =>
    have hR : insR l ⟨a, s⟩ = ([], y) := by unfold insR; rw [he]
    rw [hR]
    refine (ins_err A c l a s w hr hz' (Nat.le_trans hn (by decide)) hT (by omega) y he).mono ?_
    rintro e w' ⟨rfl, hb⟩
    exact ⟨_, rfl, own_nil _ _ _ _, hb⟩
  | none =>
    have hR : insR l ⟨a, s⟩ = (insE l (atE l s) ⟨a, s⟩, 0) := by unfold insR; rw [he]
    rw [hR]
    refine (ins_yes A c l a s w hr hz' (Nat.le_trans hn (by decide)) hT he).mono ?_
    rintro e w' ⟨v, rfl, ho, hb⟩
    exact ⟨v, rfl, by rw [insE_length _ (atE_le l s)]; exact ho, hb⟩
theorem rem_all (nm : ByteArray) (hn : nm.size ≤ 1048576) :
    Calls Tryd.prog 23 #[.slice A l.length c, .string nm] w fun e w' => ∃ v, e = .returned (.tuple #[v, .int .i64 (remR l nm).2.1, .int .i64 (remR l nm).2.2]) ∧ w'.ownsRow w.heap.size 42 2 v (remR l nm).1.length (rowsE (remR l nm).1) ∧ Below w.heap.size w w' := by
  have hz' : ∀ x ∈ l, x.f1.size ≤ 17592186044416 := fun x hx => Nat.le_trans (hz x hx) (by decide)
  cases he : remErr l nm with
  | some y =>
    have hR : remR l nm = ([], 0, y) := by unfold remR; rw [he]
    rw [hR]
    refine (rem_err A c l nm w hr (by omega) hz' (Nat.le_trans hn (by decide)) hT y he).mono ?_
    rintro e w' ⟨rfl, hb⟩
    exact ⟨_, rfl, own_nil _ _ _ _, hb⟩
  | none =>
    have hR : remR l nm = (l.eraseIdx (atE l nm), inoAt l (atE l nm), 0) := by unfold remR; rw [he]
    rw [hR]
    refine (rem_yes A c l nm w hr hz' (Nat.le_trans hn (by decide)) hT ⟨(remErr_none he).1⟩ ⟨(remErr_none he).2⟩).mono ?_
    rintro e w' ⟨v, rfl, ho, hb⟩
    exact ⟨v, rfl, by rw [List.length_eraseIdx, if_pos (isE_lt (remErr_none he).2)]; exact ho, hb⟩
theorem set_all (nm : ByteArray) (x : Int) (hn : nm.size ≤ 1048576) :
    Calls Tryd.prog 21 #[.slice A l.length c, .string nm, .int .i64 x] w fun e w' => ∃ v, e = .returned (.tuple #[v, .int .i64 (setR l nm x).2.1, .int .i64 (setR l nm x).2.2]) ∧ w'.ownsRow w.heap.size 42 2 v (setR l nm x).1.length (rowsE (setR l nm x).1) ∧ Below w.heap.size w w' := by
  have hz' : ∀ x ∈ l, x.f1.size ≤ 17592186044416 := fun x hx => Nat.le_trans (hz x hx) (by decide)
  cases he : setErr l nm x with
  | some y =>
    have hR : setR l nm x = ([], 0, y) := by unfold setR; rw [he]
    rw [hR]
    refine (set_err A c l nm x w hr (by omega) hz' (Nat.le_trans hn (by decide)) hT y he).mono ?_
    rintro e w' ⟨rfl, hb⟩
    exact ⟨_, rfl, own_nil _ _ _ _, hb⟩
  | none =>
    have hR : setR l nm x = (l.set (atE l nm) ⟨x, nameAt l (atE l nm)⟩, inoAt l (atE l nm), 0) := by unfold setR; rw [he]
    rw [hR]
    refine (set_yes A c l nm x w hr hz' (Nat.le_trans hn (by decide)) hT ⟨(setErr_none he).1⟩ ⟨(setErr_none he).2.1⟩ ⟨(setErr_none he).2.2⟩).mono ?_
    rintro e w' ⟨v, rfl, ho, hb⟩
    exact ⟨v, rfl, by rw [List.length_set]; exact ho, hb⟩
end
section
variable (l : List S42) (hl : l.length ≤ 1048576) (hz : ∀ x ∈ l, x.f1.size ≤ 1048576)
include hz
theorem nameAt_small (i : Nat) : (nameAt l i).size ≤ 140737488351232 := by
  by_cases h : i < l.length
  · obtain ⟨x, hx, e⟩ := nameAt_mem h
    rw [e]
    exact Nat.le_trans (hz x hx) (by decide)
  · unfold nameAt rd_T42
    rw [Int.toNat_natCast, List.getD_eq_getElem?_getD, List.getElem?_eq_none (by omega)]
    decide
include hl
theorem ref_find_f (nm : ByteArray) (hn : nm.size ≤ 1048576) (k : Nat) (hk : 1125899906842624 ≤ k) : hayrickref12_Find.f k l nm = some ((atE l nm : Int), isE l nm) := by
  rw [hayrickref12_Find.f]
  have h := ref_find_l l nm (by omega) (fun x hx => Nat.le_trans (hz x hx) (by decide)) (Nat.le_trans hn (by decide)) _ (Nat.le_refl _) l.length (k - (4 * (4398046511104 + 4398046511104) + 13) - 1 - l.length) 0 (by omega) (Nat.zero_le _) (fun q hq => absurd hq (Nat.not_lt_zero _))
  rw [show 4 * (4398046511104 + 4398046511104) + 13 + 1 + (k - (4 * (4398046511104 + 4398046511104) + 13) - 1 - l.length) + l.length = k by omega] at h
  exact h
theorem ref_ins_j (a : Int) (s : ByteArray) (hn : s.size ≤ 1048576) (k : Nat) (hk : 1125899906842624 ≤ k) (hm : mayE l = true) :
    hayrickref12_Insert.j0 (k + 1) l false a s = some (if isE l s = true then ([], 33) else if 64 ≤ l.length then ([], 40) else (insE l (atE l s) ⟨a, s⟩, 0)) := by
  have h64 := ((mayE_iff l).1 hm).1
  have hat := atE_le l s
  rw [hayrickref12_Insert.j0, if_neg (by simp), ref_find_f l hl hz s hn k hk, Option.bind_some]
  simp only
  by_cases hi : isE l s = true
  · rw [if_pos hi, if_pos hi]
  · rw [if_neg hi, if_neg hi]
    by_cases hf : 64 ≤ l.length
    · rw [if_pos (by omega), if_pos hf]
    · have h1 : ((atE l s : Int)).toNat = atE l s := by omega
      rw [if_neg (by omega), if_neg hf, if_pos (by omega), if_pos (by omega), Option.bind_some, if_pos (by simp; omega), Option.bind_some, if_pos (by simp; omega), Option.bind_some, Option.bind_some, if_pos (by simp; omega), h1]
      rfl
theorem ref_ins_f (a : Int) (s : ByteArray) (hn : s.size ≤ 1048576) (k : Nat) (hk : 1125899906842624 ≤ k) : hayrickref12_Insert.f (k + 1) l a s = some (insR l ⟨a, s⟩) := by
  rw [hayrickref12_Insert.f, ref_may_f l (nameAt_small l hz) (k + 1) (by omega), Option.bind_some]
  unfold insR insErr
  by_cases hm : mayE l = true
  · rw [if_pos hm, if_pos hm, valid_f s (by omega) (k + 1) (by omega), Option.bind_some]
    by_cases hv : valid s.data.toList = true
    · rw [if_pos hv, if_pos hv]
      by_cases h1 : a < 1
      · rw [if_pos h1, hayrickref12_Insert.j0, if_pos rfl, if_neg (by simp [okIno]; omega)]
      · rw [if_neg h1]
        by_cases h2 : a > 64
        · rw [decide_eq_true h2, hayrickref12_Insert.j0, if_pos rfl, if_neg (by simp [okIno]; omega)]
        · rw [decide_eq_false h2, ref_ins_j l hl hz a s hn k hk hm, if_pos (show okIno a = true by simp [okIno]; omega)]
          by_cases hi : isE l s = true
          · rw [if_pos hi, if_pos hi]
          · rw [if_neg hi, if_neg hi]
            by_cases hf : 64 ≤ l.length
            · rw [if_pos hf, if_pos hf]
            · rw [if_neg hf, if_neg hf]
    · rw [if_neg hv, if_neg hv]
  · rw [if_neg hm, if_neg hm]
theorem ref_rem_f (nm : ByteArray) (hn : nm.size ≤ 1048576) (k : Nat) (hk : 1125899906842624 ≤ k) : hayrickref12_Remove.f k l nm = some (remR l nm) := by
  rw [hayrickref12_Remove.f, ref_may_f l (nameAt_small l hz) k (by omega), Option.bind_some]
  unfold remR remErr
  by_cases hm : mayE l = true
  · rw [if_pos hm, if_pos hm, ref_find_f l hl hz nm hn k hk, Option.bind_some]
    simp only
    by_cases hi : isE l nm = true
    · have hat := isE_lt hi
      have h1 : ((atE l nm : Int)).toNat = atE l nm := by omega
      have h2 : wrap64 ((atE l nm : Int) + 1) = ((atE l nm + 1 : Nat) : Int) := by unfold wrap64; omega
      have h3 : (((atE l nm + 1 : Nat) : Int)).toNat = atE l nm + 1 := by omega
      rw [if_pos hi, if_pos hi, if_pos (by omega), if_pos (by omega), Option.bind_some, if_pos (by simp; omega), Option.bind_some, h2, if_pos (by omega), if_pos (by omega), Option.bind_some, if_pos (by simp; omega), if_pos (by omega), h1, h3, List.nil_append, List.eraseIdx_eq_take_drop_succ]
      rfl
    · rw [if_neg hi, if_neg hi]
  · rw [if_neg hm, if_neg hm]
theorem ref_set_j (nm : ByteArray) (x : Int) (hn : nm.size ≤ 1048576) (k : Nat) (hk : 1125899906842624 ≤ k) :
    hayrickref12_Set.j0 (k + 1) l nm x false = some (if isE l nm = true then (l.set (atE l nm) ⟨x, nameAt l (atE l nm)⟩, inoAt l (atE l nm), 0) else ([], 0, 32)) := by
  rw [hayrickref12_Set.j0, if_neg (by simp), ref_find_f l hl hz nm hn k hk, Option.bind_some]
  simp only
  by_cases hi : isE l nm = true
  · have hat := isE_lt hi
    have h1 : ((atE l nm : Int)).toNat = atE l nm := by omega
    rw [if_pos hi, if_pos hi, if_pos (by simp; omega), Option.bind_some, if_pos (by omega), if_pos (by simp; omega), if_pos (by omega), h1, List.nil_append]
    rfl
  · rw [if_neg hi, if_neg hi]
theorem ref_set_f (nm : ByteArray) (x : Int) (hn : nm.size ≤ 1048576) (k : Nat) (hk : 1125899906842624 ≤ k) : hayrickref12_Set.f (k + 1) l nm x = some (setR l nm x) := by
  rw [hayrickref12_Set.f, ref_may_f l (nameAt_small l hz) (k + 1) (by omega), Option.bind_some]
  unfold setR setErr
  have ht : hayrickref12_Set.j0 (k + 1) l nm x true = some ([], 0, 1) := by rw [hayrickref12_Set.j0, if_pos rfl]
  by_cases hm : mayE l = true
  · rw [if_pos hm]
    by_cases h1 : x < 1
    · rw [if_pos h1, ht, if_neg (by simp [okIno]; omega)]
    · rw [if_neg h1]
      by_cases h2 : x > 64
      · rw [decide_eq_true h2, ht, if_neg (by simp [okIno]; omega)]
      · rw [decide_eq_false h2, ref_set_j l hl hz nm x hn k hk, if_pos (show mayE l = true ∧ okIno x = true from ⟨hm, by simp [okIno]; omega⟩)]
        by_cases hi : isE l nm = true
        · rw [if_pos hi, if_pos hi]
        · rw [if_neg hi, if_neg hi]
  · rw [if_neg hm, ht, if_neg (fun h => hm h.1)]
end
section
variable (A : Option Addr) (c : Nat) (l : List S42) (w : World) (hr : Row w A l) (hc : l.length ≤ c) (hl : l.length ≤ 1048576) (hz : ∀ x ∈ l, x.f1.size ≤ 1048576)
include hr hc hl hz
theorem refIns_all (a : Int) (s : ByteArray) (hn : s.size ≤ 1048576) :
    Calls Tryd.prog 22 #[.slice A l.length c, .agg (cellsE a s)] w fun e w' => ∃ v, e = .returned (.tuple #[v, .int .i64 (insR l ⟨a, s⟩).2]) ∧ w'.ownsRow w.heap.size 42 2 v (insR l ⟨a, s⟩).1.length (rowsE (insR l ⟨a, s⟩).1) ∧ Below w.heap.size w w' := by
  refine (hayrickref12_Insert.calls (1125899906842624 + 1) A c l a s _ _ w hr.c hc (ref_ins_f l hl hz a s hn _ (Nat.le_refl _))).mono ?_
  rintro e w' ⟨v, he, ho, hb⟩
  exact ⟨v, he, own_of_R ho, hb⟩
theorem refRem_all (nm : ByteArray) (hn : nm.size ≤ 1048576) :
    Calls Tryd.prog 24 #[.slice A l.length c, .string nm] w fun e w' => ∃ v, e = .returned (.tuple #[v, .int .i64 (remR l nm).2.1, .int .i64 (remR l nm).2.2]) ∧ w'.ownsRow w.heap.size 42 2 v (remR l nm).1.length (rowsE (remR l nm).1) ∧ Below w.heap.size w w' := by
  refine (hayrickref12_Remove.calls 1125899906842624 A c l nm _ _ _ w hr.c hc (ref_rem_f l hl hz nm hn _ (Nat.le_refl _))).mono ?_
  rintro e w' ⟨v, he, ho, hb⟩
  exact ⟨v, he, own_of_R ho, hb⟩
theorem refSet_all (nm : ByteArray) (x : Int) (hn : nm.size ≤ 1048576) :
    Calls Tryd.prog 25 #[.slice A l.length c, .string nm, .int .i64 x] w fun e w' => ∃ v, e = .returned (.tuple #[v, .int .i64 (setR l nm x).2.1, .int .i64 (setR l nm x).2.2]) ∧ w'.ownsRow w.heap.size 42 2 v (setR l nm x).1.length (rowsE (setR l nm x).1) ∧ Below w.heap.size w w' := by
  refine (hayrickref12_Set.calls (1125899906842624 + 1) A c l nm x _ _ _ w hr.c hc (ref_set_f l hl hz nm x hn _ (Nat.le_refl _))).mono ?_
  rintro e w' ⟨v, he, ho, hb⟩
  exact ⟨v, he, own_of_R ho, hb⟩
end
end Go.Proofs.YtneanbckmekdkaaDoor.EN
