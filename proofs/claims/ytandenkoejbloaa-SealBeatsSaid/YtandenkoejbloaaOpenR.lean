/- Rows of bytes as a law's argument, opened. Plain: over any program. -/
import Derived.Test.YtandenkoejbloaaOpen
namespace Go.Proofs.Ytandenkoejbloaa
open Go Go.RowKit Go.ChangeShapes Go.WideShapes Go.ChangeAt
section
variable {H : Type} {enc : TypeId × Value → H} {P : Program} {w : World} {base : Nat} {sp : Nat → Bool} {held : Bool} {r : Reach} {b0 : Nat}

theorem row_of_trod {t e : TypeId} (ht : P.underlying t = some (.slice e)) (he : P.underlying e = some (.int .u8)) (hc : P.cellsOf e = 1) {fuel : Nat} {cs : List Value} {x : DataW H × List MemPlace}
    (hf : DataW.trod enc P w base sp held fuel t cs = some x) : ∃ (v : Value) (l : List UInt8), cs = [v] ∧ Rd w v (l.map bv) := by
  rcases open_ints ht he hc hf with ⟨hcs, _⟩ | ⟨x, l, c, zs, hcs, _, hl, hm, hz, _, hcell, hwz⟩
  · exact ⟨_, [], hcs, Rd.nil_ w⟩
  · obtain ⟨bs', hbs⟩ := wf_u8s (zs := zs.take l) (fun n hn => hwz n (List.mem_of_mem_take hn))
    have := rd_row (k := .u8) hl hm (by rw [hz]; split <;> omega) (fun i hi => ⟨x, rfl, hcell i hi⟩)
    rw [hbs, List.map_map] at this
    exact ⟨_, bs', hcs, this⟩

theorem list_of {α : Type} {Q : Nat → α → Prop} : ∀ n : Nat, (∀ i, i < n → ∃ a, Q i a) → ∃ l : List α, l.length = n ∧ ∀ (i : Nat) (a : α), l[i]? = some a → Q i a
  | 0, _ => ⟨[], rfl, fun i a h => by simp at h⟩
  | n + 1, h => by
    obtain ⟨l, hl, hq⟩ := list_of n (fun i hi => h i (by omega))
    obtain ⟨a, ha⟩ := h n (by omega)
    refine ⟨l ++ [a], by simp [hl], fun i b hb => ?_⟩
    by_cases hi : i < l.length
    · rw [List.getElem?_append_left hi] at hb; exact hq i b hb
    · have hi2 : i < (l ++ [a]).length := (List.getElem?_eq_some_iff.1 hb).1
      simp at hi2
      obtain rfl : i = l.length := by omega
      simp at hb
      rw [← hb, hl]; exact ha

theorem open_rows {t e e8 : TypeId} {v : Value} {d : DataW H} {p : List MemPlace} (ht : P.underlying t = some (.slice e)) (he : P.underlying e = some (.slice e8)) (h8 : P.underlying e8 = some (.int .u8)) (hc8 : P.cellsOf e8 = 1) (hc : P.cellsOf e = 1)
    (hv : Value.okWide P w r b0 t v) (h : DataW.Trod enc P w base sp held t v d p) : ∃ L : List (Value × List UInt8), Rd w v (L.map (·.1)) ∧ ∀ q ∈ L, Rd w q.1 (q.2.map bv) := by
  obtain ⟨a, len, cap, rfl⟩ := okWide_slice ht hv
  obtain ⟨fuel, hf⟩ := h
  rcases DataW.trod_slice ht hf with ⟨hcs, _⟩ | ⟨x, l, c, elems, rest, n, _, hcs, _, hb, hl, hm, hlen, hel, _, _⟩
  · simp [Value.cells] at hcs
    obtain ⟨rfl, rfl, rfl⟩ := hcs
    exact ⟨[], Rd.nil_ w, by simp⟩
  · simp [Value.cells] at hcs
    obtain ⟨rfl, rfl, rfl⟩ := hcs
    have each : ∀ i, i < len → ∃ q : Value × List UInt8, w.cell? (x.add i) = some q.1 ∧ Rd w q.1 (q.2.map bv) := by
      intro i hi
      have h1 := hel i hi
      rw [hc, Nat.mul_one, List.getElem?_eq_getElem (by omega), Option.bind_eq_some_iff] at h1
      obtain ⟨cs', hcs, hy⟩ := h1
      obtain ⟨v', l', rfl, hr⟩ := row_of_trod he h8 hc8 hy
      exact ⟨(v', l'), cell_of_cells?_one hcs, hr⟩
    obtain ⟨L, hL, hq⟩ := list_of len each
    refine ⟨L, ?_, fun q hq' => ?_⟩
    · have hlen' : (L.map (·.1)).length = len := by simp [hL]
      refine ⟨some x, cap, by rw [hlen'], by omega, hm, fun j y hj => ?_⟩
      rw [List.getElem?_map, Option.map_eq_some_iff] at hj
      obtain ⟨q, hj, rfl⟩ := hj
      have hjl := (List.getElem?_eq_some_iff.1 hj).1
      have hcj := (hq j q hj).1
      have h0 : ∃ z, w.cell? (x.add 0) = some z := by obtain ⟨q0, h0, _⟩ := each 0 (by omega); exact ⟨_, h0⟩
      obtain ⟨z, h0⟩ := h0
      have hsp : x.spot = none := by
        cases hs : x.spot with
        | none => rfl
        | some n =>
          simp only [Addr.add, if_true, World.cell?, hs, Option.isSome_some] at h0
          split at h0 <;> cases h0
      obtain ⟨b, o, s⟩ := x
      simp only at hsp; subst hsp
      refine ⟨b, o, rfl, ?_, ?_⟩
      · have := World.block_lt_of_cell? w _ h0
        simpa [Addr.add] using this
      · rw [Addr.add_lit] at hcj
        exact hcj
    · obtain ⟨i, hi⟩ := List.getElem?_of_mem hq'
      exact (hq i q hi).2
end
end Go.Proofs.Ytandenkoejbloaa
