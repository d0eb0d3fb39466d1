import Derived.Test.YtneanbckmekdkaaDoorMWk
import Derived.Test.YtneanbckmekdkaaDoorCards
import Derived.Deep.SlicePairs
import Derived.SizedLaws
import Derived.WideShapes
import Derived.OpenShut
import Derived.ChangeMaps5
section
/- A list of entries, an entry by value: opened. -/
namespace Go.Proofs.YtneanbckmekdkaaDoor.EN
open Go Go.RowKit Go.Proofs.YtneanbckmekdkaaDoorW.PrintWords Go.Proofs.YtneanbckmekdkaaDoor.PEntryForms Go.ChangeShapes Go.WideShapes
set_option linter.unusedVariables false
theorem cells42 : Tryd.prog.cellsOf 42 = 2 := by kernel_rfl
theorem cells9 : Tryd.prog.cellsOf 9 = 1 := by kernel_rfl
theorem cells3 : Tryd.prog.cellsOf 3 = 1 := by kernel_rfl
theorem cells5 : Tryd.prog.cellsOf 5 = 1 := by kernel_rfl
theorem bytes42 : Tryd.prog.bytesOf 42 = 24 := by kernel_rfl
section
variable {H : Type} {enc : TypeId × Value → H}
theorem weights_all {P : Program} {e : TypeId} : ∀ {ds : List (DataW H)} {d : DataW H} {n : Nat}, d ∈ ds → n ∈ d.weights P e → n ∈ DataW.weightsAll P e ds
  | d0 :: ds, d, n, hd, hn => by
    simp only [DataW.weightsAll, List.mem_append]
    rcases List.mem_cons.1 hd with rfl | h
    · exact .inl hn
    · exact .inr (weights_all h hn)
theorem bulk_all {d : DataW H} : ∀ {ds : List (DataW H)}, d ∈ ds → Rows.uptoBulk d ≤ Rows.uptoBulkAll ds
  | d0 :: ds, h => by
    rw [Rows.uptoBulkAll]
    rcases List.mem_cons.1 h with rfl | h
    · omega
    · have := bulk_all h; omega
theorem bulk_len : ∀ (ds : List (DataW H)), (∀ d ∈ ds, 1 ≤ Rows.uptoBulk d) → ds.length ≤ Rows.uptoBulkAll ds
  | [], _ => Nat.zero_le _
  | d :: ds, h => by
    rw [Rows.uptoBulkAll, List.length_cons]
    have h1 := h d (List.mem_cons_self ..)
    have h2 := bulk_len ds (fun x hx => h x (List.mem_cons_of_mem _ hx))
    omega
/-- What one entry is. -/
def EntOf (v0 v1 : Value) (d1 : DataW H) (p : S42) : Prop :=
  v0 = .int .i64 p.f0 ∧ (Lit.int .i64 p.f0).wf = true ∧ v1 = .string p.f1 ∧ p.f1.size ≤ reachBytes ∧ d1 = .lit (.string p.f1.data.toList)
set_option maxRecDepth 100000 in
theorem open_ents {W : World} {v : Value} {d : DataW H} {ps : List MemPlace} {b0 : Nat} {r : Reach} {ts : List TypeId} {ds : List (DataW H)} {j : Nat} (hv : Value.okWide Tryd.prog W r b0 22 v) (h : DataW.Trod enc Tryd.prog W 0 (fun _ => true) true 22 v d ps)
    (hsz : (DataW.weightsEach Tryd.prog ts ds).all (· ≤ reachBytes) = true) (ht : ts[j]? = some 22) (hd : ds[j]? = some d) :
    ∃ (A : Option Addr) (c : Nat) (l : List S42), v = .slice A l.length c ∧ l.length ≤ c ∧ Row W A l ∧ l.length * 24 ≤ reachBytes ∧ (∀ p ∈ l, (Lit.int .i64 p.f0).wf = true) ∧ (∀ p ∈ l, p.f1.size ≤ Rows.uptoBulk d) ∧ l.length ≤ Rows.uptoBulk d := by
  obtain ⟨A, n, c, rfl⟩ := okWide_slice Tryd.underlying22 hv
  obtain ⟨fuel, hf⟩ := h
  rcases Go.Deep.open_slice_pairs Tryd.underlying22 Tryd.underlying42 cells42 rfl rfl cells3 cells9 hf with ⟨hcs, _⟩ | ⟨a, len, cap, m, n', V0, V1, D0, D1, P0, P1, hcs, hb, hl, hm, hmm, hx, hi⟩
  · simp [Value.cells] at hcs
    obtain ⟨rfl, rfl, rfl⟩ := hcs
    exact ⟨none, 0, [], rfl, Nat.le_refl _, row_none W, Nat.zero_le _, by simp, by simp, Nat.zero_le _⟩
  · simp [Value.cells] at hcs
    obtain ⟨rfl, rfl, rfl⟩ := hcs
    obtain ⟨hx, _⟩ := Prod.mk.inj hx
    have hlm : n ≤ m := by rw [hmm]; exact hl
    subst hx
    have z := sized_slice hsz ht hd Tryd.underlying22
    rw [bytes42] at z
    simp only [List.length_map, List.length_range] at z
    have each : ∀ i, i < n → ∃ p : S42, EntOf (V0 i) (V1 i) (D1 i) p := by
      intro i hin
      obtain ⟨_, _, t0, t1⟩ := hi i (by omega)
      obtain ⟨x, e1, e2, e3⟩ := DataW.trod_int Tryd.underlying3 t0
      obtain ⟨s, s1, s2, s3⟩ := DataW.trod_string Tryd.underlying9 t1
      have hD : D1 i = .lit (.string s.data.toList) := (Prod.mk.inj s2).1
      have hw : ∀ q ∈ (D1 i).weights Tryd.prog 9, q ≤ reachBytes := by
        intro q hq
        have h1 : q ∈ (DataW.agg [D0 i, D1 i]).weights Tryd.prog 42 := by
          simp only [DataW.weights, Tryd.underlying42]
          simp only [DataW.weightsEach, List.map_cons, List.map_nil, List.mem_append]
          exact .inr (.inl hq)
        have h2 : q ∈ DataW.weightsAll Tryd.prog 42 ((List.range n).map fun i => DataW.agg [D0 i, D1 i]) := weights_all (List.mem_map.2 ⟨i, List.mem_range.2 hin, rfl⟩) h1
        have h3 := List.all_eq_true.1 hsz _ (DataW.weights_mem_each ht hd q (by
          simp only [DataW.weights, Tryd.underlying22, List.mem_cons, List.mem_append]
          exact .inr (.inl h2)))
        simpa using h3
      have hs := hw s.data.toList.length (by rw [hD]; simp [DataW.weights])
      exact ⟨⟨x, s⟩, by simpa using e1, e3, by simpa using s1, by show s.size ≤ reachBytes; rw [Lib.size_eq]; exact hs, hD⟩
    classical
    obtain ⟨G, hG⟩ : ∃ G : Nat → S42, ∀ i, i < n → EntOf (V0 i) (V1 i) (D1 i) (G i) := ⟨fun i => if hin : i < n then Classical.choose (each i hin) else z42, fun i hin => by
      show EntOf (V0 i) (V1 i) (D1 i) (if hin : i < n then Classical.choose (each i hin) else z42)
      rw [dif_pos hin]
      exact Classical.choose_spec (each i hin)⟩
    have hll : ((List.range n).map G).length = n := by rw [List.length_map, List.length_range]
    have hall : ∀ p ∈ (List.range n).map G, ∃ i, i < n ∧ G i = p := by
      intro p hp
      obtain ⟨i, hi, e⟩ := List.mem_map.1 hp
      exact ⟨i, List.mem_range.1 hi, e⟩
    refine ⟨some a, c, (List.range n).map G, by rw [hll], by rw [hll]; exact hl, ⟨?_, fun p hp => ?_⟩, by rw [hll]; omega, fun p hp => ?_, fun p hp => ?_, ?_⟩
    · refine ⟨rfl, by rw [hll]; simp only [maxLen] at hm; omega, fun _ => ⟨_, rfl, fun j p hj => ?_⟩⟩
      obtain ⟨hjl, hje⟩ := List.getElem?_eq_some_iff.1 hj
      have hjn : j < n := by rw [← hll]; exact hjl
      have hp : G j = p := by simpa using hje
      obtain ⟨g0, _, g1, _⟩ := hG j hjn
      rw [hp] at g0 g1
      obtain ⟨k0, k1, _, _⟩ := hi j (by omega)
      refine ⟨_, rfl, k42_mk W p, fun i u hu => ?_⟩
      match i, hu with
      | 0, hu => rw [← Option.some.inj hu, ← g0]; exact k0
      | 1, hu => rw [← Option.some.inj hu, ← g1]; exact k1
    · obtain ⟨i, hi, rfl⟩ := hall p hp
      have := (hG i hi).2.2.2.1
      simpa [reachBytes] using this
    · obtain ⟨i, hi, rfl⟩ := hall p hp; exact (hG i hi).2.1
    · obtain ⟨i, hi, rfl⟩ := hall p hp
      have h1 := (hG i hi).2.2.2.2
      have h2 : Rows.uptoBulk (DataW.agg [D0 i, D1 i]) ≤ Rows.uptoBulkAll ((List.range n).map fun i => DataW.agg [D0 i, D1 i]) := bulk_all (List.mem_map.2 ⟨i, List.mem_range.2 hi, rfl⟩)
      rw [h1] at h2
      simp only [Rows.uptoBulk, Rows.uptoBulkAll] at h2 ⊢
      rw [Lib.size_eq]
      omega
    · have h2 := bulk_len ((List.range n).map fun i => DataW.agg [D0 i, D1 i]) (fun d hd => by
        obtain ⟨i, _, rfl⟩ := List.mem_map.1 hd
        simp only [Rows.uptoBulk]; omega)
      rw [List.length_map, List.length_range] at h2
      rw [hll]
      simp only [Rows.uptoBulk]
      omega
theorem open_bytes {W : World} {A : Option Addr} {n c : Nat} {d : DataW H} {ps : List MemPlace} (h : DataW.Trod enc Tryd.prog W 0 (fun _ => true) true 23 (.slice A n c) d ps) : ∃ b : List Int, ReadsInt W .u8 A n b ∧ n ≤ c ∧ ∀ x ∈ b, 0 ≤ x ∧ x < 256 := by
  obtain ⟨fuel, hf⟩ := h
  rcases open_ints Tryd.underlying23 Tryd.underlying5 cells5 hf with ⟨hcs, _⟩ | ⟨x, l, c', zs, hcs, _, hl, hm, hz, _, hcell, hwz⟩
  · simp [Value.cells] at hcs
    obtain ⟨rfl, rfl, rfl⟩ := hcs
    exact ⟨[], ⟨rfl, by decide, fun h => absurd h (by decide)⟩, Nat.le_refl _, by simp⟩
  · simp [Value.cells] at hcs
    obtain ⟨rfl, rfl, rfl⟩ := hcs
    have hz' : zs.length = c := by simpa using hz
    refine ⟨zs.take n, ⟨by rw [List.length_take]; omega, by simp only [maxLen] at hm; omega, fun h0 => ⟨x, rfl, fun j hj => ?_⟩⟩, hl, fun y hy => ?_⟩
    · rw [hcell j (by omega)]
      simp [List.getD_eq_getElem?_getD, hj]
    · have := hwz y (List.mem_of_mem_take hy)
      have h' : IntKind.u8.min ≤ y ∧ y ≤ IntKind.u8.max := by simpa [Lit.wf] using this
      have e1 : IntKind.u8.min = 0 := by decide
      have e2 : IntKind.u8.max = 255 := by decide
      omega
end
end Go.Proofs.YtneanbckmekdkaaDoor.EN

end

section
/- An entry that comes in by value: opened, and read again in any world. -/
namespace Go.Proofs.YtneanbckmekdkaaDoor.EN
open Go Go.RowKit Go.Proofs.YtneanbckmekdkaaDoorW.PrintWords Go.Proofs.YtneanbckmekdkaaDoor.PEntryForms Go.ChangeShapes Go.WideShapes
set_option linter.unusedVariables false
section
variable {H : Type} {enc : TypeId × Value → H}
theorem trod_i_mk {W : World} {base : Nat} {sp : Nat → Bool} {held : Bool} {n : Nat} {x : Int} (h : (Lit.int .i64 x).wf = true) : DataW.trod enc Tryd.prog W base sp held (n + 1) 3 [.int .i64 x] = some (.lit (.int .i64 x), []) := by
  simp [DataW.trod, Tryd.underlying3, h]
theorem trod_s_mk {W : World} {base : Nat} {sp : Nat → Bool} {held : Bool} {n : Nat} {s : ByteArray} (hs : s.size ≤ maxLen) : DataW.trod enc Tryd.prog W base sp held (n + 1) 9 [.string s] = some (.lit (.string s.data.toList), []) := by
  simp [DataW.trod, Tryd.underlying9, hs]
theorem open_ent {W : World} {v : Value} {d : DataW H} {ps : List MemPlace} {b0 base : Nat} {r : Reach} {sp : Nat → Bool} {held : Bool} {ts : List TypeId} {ds : List (DataW H)} {j : Nat} (hv : Value.okWide Tryd.prog W r b0 42 v) (h : DataW.Trod enc Tryd.prog W base sp held 42 v d ps)
    (hsz : (DataW.weightsEach Tryd.prog ts ds).all (· ≤ reachBytes) = true) (ht : ts[j]? = some 42) (hd : ds[j]? = some d) :
    ∃ (x : Int) (s : ByteArray), v = .agg (cellsE x s) ∧ ps = [] ∧ (Lit.int .i64 x).wf = true ∧ s.size ≤ 140737488351232 ∧ s.size ≤ Rows.uptoBulk d ∧ ∀ (W' : World) (base' : Nat) (sp' : Nat → Bool) (held' : Bool), DataW.Trod enc Tryd.prog W' base' sp' held' 42 (.agg (cellsE x s)) d [] := by
  obtain ⟨cs, rfl, hcs⟩ := okWide_struct Tryd.underlying42 hv
  obtain ⟨c0, c1, rfl⟩ : ∃ a b, cs = #[a, b] := by
    obtain ⟨L⟩ := cs
    match L, hcs.trans cells42 with
    | [a, b], _ => exact ⟨a, b, rfl⟩
  obtain ⟨fuel, hf⟩ := h
  obtain ⟨xs, n, _, hx, _, hlen, hg⟩ := DataW.trod_struct Tryd.underlying42 hf
  match xs, hlen with
  | [y0, y1], _ =>
    obtain ⟨x, e0, r0, w0⟩ := DataW.trod_int Tryd.underlying3 (show DataW.trod enc Tryd.prog W base sp held n 3 [c0] = some y0 from by simpa [Value.cells, cells3] using hg 0 _ rfl)
    obtain ⟨s, e1, r1, w1⟩ := DataW.trod_string Tryd.underlying9 (show DataW.trod enc Tryd.prog W base sp held n 9 [c1] = some y1 from by simpa [Value.cells, cells9] using hg 1 _ rfl)
    simp only [List.cons.injEq, and_true] at e0 e1
    subst e0 e1 r0 r1
    simp only [Prod.mk.injEq] at hx
    have hd2 : d = .agg [.lit (.int .i64 x), .lit (.string s.data.toList)] := hx.1
    have hs : s.data.toList.length ≤ reachBytes := by
      have h3 := List.all_eq_true.1 hsz s.data.toList.length (DataW.weights_mem_each ht hd _ (by
        rw [hd2]
        simp only [DataW.weights, Tryd.underlying42]
        simp [DataW.weightsEach, DataW.weights]))
      simpa using h3
    refine ⟨x, s, rfl, by rw [hx.2]; rfl, w0, by rw [Lib.size_eq]; simpa [reachBytes] using hs, ?_, fun W' base' sp' held' => ?_⟩
    · rw [hd2, Lib.size_eq]
      simp only [Rows.uptoBulk, Rows.uptoBulkAll]
      omega
    · rw [hd2]
      refine ⟨3, ?_⟩
      unfold DataW.trod
      rw [Tryd.underlying42]
      simp only [Value.cells, cells42]
      rw [if_pos (by rfl)]
      simp [cellsE, cells3, cells9, trod_i_mk w0, trod_s_mk w1]
end
end Go.Proofs.YtneanbckmekdkaaDoor.EN

end
