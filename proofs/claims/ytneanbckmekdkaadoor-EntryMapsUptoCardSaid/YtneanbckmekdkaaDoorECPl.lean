/- Insert, Remove, Set: the program's, told by what they answer. -/
import Derived.Test.YtneanbckmekdkaaDoorMIns
namespace Go.Proofs.YtneanbckmekdkaaDoor.EN
open Go Go.RowKit Go.Proofs.YtneanbckmekdkaaDoorX Go.Proofs.YtneanbckmekdkaaDoor.NM Go.Proofs.YtneanbckmekdkaaDoorW.PrintWords Go.Proofs.YtneanbckmekdkaaDoorW.PrintLast Go.Proofs.YtneanbckmekdkaaDoorW.PrintMore Go.Proofs.YtneanbckmekdkaaDoor.PEntryForms
set_option linter.unusedVariables false
set_option linter.unusedSimpArgs false
def insR (l : List S42) (x : S42) : List S42 × Int := match insErr l x with | some y => ([], y) | none => (insE l (atE l x.f1) x, 0)
def remR (l : List S42) (nm : ByteArray) : List S42 × Int × Int := match remErr l nm with | some y => ([], 0, y) | none => (l.eraseIdx (atE l nm), inoAt l (atE l nm), 0)
def setR (l : List S42) (nm : ByteArray) (x : Int) : List S42 × Int × Int := match setErr l nm x with | some y => ([], 0, y) | none => (l.set (atE l nm) ⟨x, nameAt l (atE l nm)⟩, inoAt l (atE l nm), 0)
theorem isE_lt {l : List S42} {nm : ByteArray} (h : isE l nm = true) : atE l nm < l.length := by
  unfold isE at h
  rw [Bool.and_eq_true] at h
  exact of_decide_eq_true h.1
theorem isE_name {l : List S42} {nm : ByteArray} (h : isE l nm = true) : nameAt l (atE l nm) = nm := by
  unfold isE at h
  rw [Bool.and_eq_true, beq_iff_eq] at h
  have h2 := h.2
  rw [Lib.toList_data, Lib.toList_data] at h2
  exact ByteArray.ext (Array.toList_inj.1 h2)
theorem nameAt_mem {l : List S42} {i : Nat} (h : i < l.length) : ∃ x ∈ l, nameAt l i = x.f1 := ⟨l[i], List.getElem_mem h, (at_get h).2⟩
theorem insR_mem {l : List S42} {x y : S42} (h : y ∈ (insR l x).1) : y ∈ l ∨ y = x := by
  unfold insR at h
  split at h
  · cases h
  · simp only [insE, List.mem_append, List.mem_singleton] at h
    rcases h with (h | h) | h
    · exact .inl (List.mem_of_mem_take h)
    · exact .inr h
    · exact .inl (List.mem_of_mem_drop h)
theorem remErr_none {l : List S42} {nm : ByteArray} (h : remErr l nm = none) : mayE l = true ∧ isE l nm = true := by
  unfold remErr at h
  by_cases h1 : mayE l = true
  · rw [if_pos h1] at h
    by_cases h2 : isE l nm = true
    · exact ⟨h1, h2⟩
    · rw [if_neg h2] at h; cases h
  · rw [if_neg h1] at h; cases h
theorem setErr_none {l : List S42} {nm : ByteArray} {x : Int} (h : setErr l nm x = none) : mayE l = true ∧ okIno x = true ∧ isE l nm = true := by
  unfold setErr at h
  by_cases h1 : mayE l = true ∧ okIno x = true
  · rw [if_pos h1] at h
    by_cases h2 : isE l nm = true
    · exact ⟨h1.1, h1.2, h2⟩
    · rw [if_neg h2] at h; cases h
  · rw [if_neg h1] at h; cases h
theorem remR_mem {l : List S42} {nm : ByteArray} {y : S42} (h : y ∈ (remR l nm).1) : y ∈ l := by
  unfold remR at h
  split at h
  · cases h
  · exact List.mem_of_mem_eraseIdx h
theorem setR_mem {l : List S42} {nm : ByteArray} {x : Int} {y : S42} (h : y ∈ (setR l nm x).1) : ∃ z ∈ l, y.f1 = z.f1 := by
  unfold setR at h
  split at h
  · cases h
  · next he =>
    rcases List.mem_or_eq_of_mem_set h with h | rfl
    · exact ⟨y, h, rfl⟩
    · exact nameAt_mem (isE_lt (setErr_none he).2.2)
section
variable (A : Option Addr) (c : Nat) (l : List S42) (w : World) (hr : Row w A l) (hl : l.length ≤ 1048576) (hz : ∀ x ∈ l, x.f1.size ≤ 1048576) (hT : Lib.Utf8Tabs 1 2 w)
include hr hl hz hT
theorem ins_all (a : Int) (s : ByteArray) (hn : s.size ≤ 1048576) :
    Calls Tryd.prog 20 #[.slice A l.length c, .agg (cellsE a s)] w fun e w' => ∃ v, e = .returned (.tuple #[v, .int .i64 (insR l ⟨a, s⟩).2]) ∧ w'.ownsRow w.heap.size 42 2 v (insR l ⟨a, s⟩).1.length (rowsE (insR l ⟨a, s⟩).1) ∧ Below w.heap.size w w' := by
  have hz' : ∀ x ∈ l, x.f1.size ≤ 17592186044416 := fun x hx => Nat.le_trans (hz x hx) (by decide)
  cases he : insErr l ⟨a, s⟩ with
  | some y =>
    have hR : insR l ⟨a, s⟩ = ([], y) := by unfold insR; rw [he]
    rw [hR]
    refine (ins_err A c l a s w hr hz' (Nat.le_trans hn (by decide)) hT (by omega) y he).mono ?_
    rintro e w' ⟨rfl, hb⟩
    exact ⟨_, rfl, own_nil _ _ _ _, hb⟩
  | none =>
    have hR : insR l ⟨a, s⟩ = (insE l (atE l s) ⟨a, s⟩, 0) := by unfold insR; rw [he]
    rw [hR]
    refine (ins_yes A c l a s w hr hz' (Nat.le_trans hn (by decide)) hT he).mono ?_
    rintro e w' ⟨v, rfl, ho, hb⟩
    exact ⟨v, rfl, by rw [insE_length _ (atE_le l s)]; exact ho, hb⟩
theorem rem_all (nm : ByteArray) (hn : nm.size ≤ 1048576) :
    Calls Tryd.prog 23 #[.slice A l.length c, .string nm] w fun e w' => ∃ v, e = .returned (.tuple #[v, .int .i64 (remR l nm).2.1, .int .i64 (remR l nm).2.2]) ∧ w'.ownsRow w.heap.size 42 2 v (remR l nm).1.length (rowsE (remR l nm).1) ∧ Below w.heap.size w w' := by
  have hz' : ∀ x ∈ l, x.f1.size ≤ 17592186044416 := fun x hx => Nat.le_trans (hz x hx) (by decide)
  cases he : remErr l nm with
  | some y =>
    have hR : remR l nm = ([], 0, y) := by unfold remR; rw [he]
    rw [hR]
    refine (rem_err A c l nm w hr (by omega) hz' (Nat.le_trans hn (by decide)) hT y he).mono ?_
    rintro e w' ⟨rfl, hb⟩
    exact ⟨_, rfl, own_nil _ _ _ _, hb⟩
  | none =>
    have hR : remR l nm = (l.eraseIdx (atE l nm), inoAt l (atE l nm), 0) := by unfold remR; rw [he]
    rw [hR]
    refine (rem_yes A c l nm w hr hz' (Nat.le_trans hn (by decide)) hT ⟨(remErr_none he).1⟩ ⟨(remErr_none he).2⟩).mono ?_
    rintro e w' ⟨v, rfl, ho, hb⟩
    exact ⟨v, rfl, by rw [List.length_eraseIdx, if_pos (isE_lt (remErr_none he).2)]; exact ho, hb⟩
theorem set_all (nm : ByteArray) (x : Int) (hn : nm.size ≤ 1048576) :
    Calls Tryd.prog 21 #[.slice A l.length c, .string nm, .int .i64 x] w fun e w' => ∃ v, e = .returned (.tuple #[v, .int .i64 (setR l nm x).2.1, .int .i64 (setR l nm x).2.2]) ∧ w'.ownsRow w.heap.size 42 2 v (setR l nm x).1.length (rowsE (setR l nm x).1) ∧ Below w.heap.size w w' := by
  have hz' : ∀ x ∈ l, x.f1.size ≤ 17592186044416 := fun x hx => Nat.le_trans (hz x hx) (by decide)
  cases he : setErr l nm x with
  | some y =>
    have hR : setR l nm x = ([], 0, y) := by unfold setR; rw [he]
    rw [hR]
    refine (set_err A c l nm x w hr (by omega) hz' (Nat.le_trans hn (by decide)) hT y he).mono ?_
    rintro e w' ⟨rfl, hb⟩
    exact ⟨_, rfl, own_nil _ _ _ _, hb⟩
  | none =>
    have hR : setR l nm x = (l.set (atE l nm) ⟨x, nameAt l (atE l nm)⟩, inoAt l (atE l nm), 0) := by unfold setR; rw [he]
    rw [hR]
    refine (set_yes A c l nm x w hr hz' (Nat.le_trans hn (by decide)) hT ⟨(setErr_none he).1⟩ ⟨(setErr_none he).2.1⟩ ⟨(setErr_none he).2.2⟩).mono ?_
    rintro e w' ⟨v, rfl, ho, hb⟩
    exact ⟨v, rfl, by rw [List.length_set]; exact ho, hb⟩
end
end Go.Proofs.YtneanbckmekdkaaDoor.EN
