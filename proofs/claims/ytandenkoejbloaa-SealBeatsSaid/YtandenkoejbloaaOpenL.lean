/- Rows of four numbers, of numbers, of Booleans, as a law's argument, opened. Plain: over any program. -/
import Derived.Test.YtandenkoejbloaaOpenR
import Derived.Test.YtandenkoejbloaaOpenM
namespace Go.Proofs.Ytandenkoejbloaa
open Go Go.RowKit Go.ChangeShapes Go.WideShapes Go.ChangeAt
section
variable {H : Type} {enc : TypeId × Value → H} {P : Program} {w : World} {base : Nat} {sp : Nat → Bool} {held : Bool} {r : Reach} {b0 : Nat}

theorem struct_of_trod {t : TypeId} {fs : Array Field} {cl : List Value} {fuel : Nat} {x : DataW H × List MemPlace} (ht : P.underlying t = some (.struct fs)) (hcl : cl.length = fs.size) (hf : numFields P fs.toList 0 = true)
    (hf' : DataW.trod enc P w base sp held fuel t cl = some x) : ∃ l : List Int, l.length = fs.size ∧ cl = l.map (Value.int .i64) ∧ ∀ n ∈ l, okN n := by
  obtain ⟨xs, m, _, _, hl, hx, hi⟩ := DataW.trod_struct ht hf'
  have hall : ∀ i, i < fs.size → ∃ n : Int, cl[i]? = some (Value.int .i64 n) ∧ okN n := by
    intro i hin
    have hfi : fs[i]? = some fs[i] := Array.getElem?_eq_getElem hin
    obtain ⟨ho, hc1, hu⟩ := numFields_spec fs.toList 0 hf i fs[i] (by rw [Array.getElem?_toList]; exact hfi)
    have h1 := hi i _ hfi
    rw [hc1, ho, Nat.zero_add] at h1
    have hx' : i < xs.length := by omega
    rw [List.getElem?_eq_getElem hx'] at h1
    obtain ⟨z, e1, _, hw⟩ := DataW.trod_int hu h1
    refine ⟨z, ?_, wf_i64 hw⟩
    have h2 : ((cl.drop i).take 1)[0]? = some (Value.int .i64 z) := by rw [e1]; rfl
    rw [List.getElem?_take_of_lt (by omega), List.getElem?_drop] at h2
    simpa using h2
  obtain ⟨l, h1, h2⟩ := list_of fs.size hall
  refine ⟨l, h1, ?_, fun n hn => ?_⟩
  · apply List.ext_getElem?
    intro i
    by_cases hin : i < fs.size
    · have := (h2 i l[i] (List.getElem?_eq_getElem (by omega))).1
      rw [this, List.getElem?_map, List.getElem?_eq_getElem (by omega)]; rfl
    · rw [List.getElem?_eq_none (by omega), List.getElem?_eq_none (by rw [List.length_map]; omega)]
  · obtain ⟨i, hi⟩ := List.getElem?_of_mem hn
    exact (h2 i n hi).2

/-- A step of four numbers. -/
structure Q4 where
  a : Int
  b : Int
  c : Int
  d : Int
def Q4.ok (q : Q4) : Prop := okN q.a ∧ okN q.b ∧ okN q.c ∧ okN q.d
/-- The slice value v reads as the steps L, four cells each. -/
def Rq (w : World) (v : Value) (L : List Q4) : Prop :=
  ∃ ao cap, v = .slice ao L.length cap ∧ L.length ≤ cap ∧ cap ≤ maxLen ∧ ∀ j q, L[j]? = some q → q.ok ∧ ∃ b o, ao = some ⟨b, o, none⟩ ∧ b < w.heap.size ∧
    w.cell? ⟨b, o + j * 4, none⟩ = some (.int .i64 q.a) ∧ w.cell? ⟨b, o + j * 4 + 1, none⟩ = some (.int .i64 q.b) ∧ w.cell? ⟨b, o + j * 4 + 2, none⟩ = some (.int .i64 q.c) ∧ w.cell? ⟨b, o + j * 4 + 3, none⟩ = some (.int .i64 q.d)
theorem Rq.kept {S : Nat → Prop} {w w' : World} {v : Value} {L : List Q4} (h : Rq w v L) (hf : Fr S w w') (hn : ∀ b o, v.ownBlock = some b → b = o → ¬ S b) : Rq w' v L := by
  obtain ⟨ao, cap, rfl, h1, h2, h3⟩ := h
  refine ⟨ao, cap, rfl, h1, h2, fun j q hj => ?_⟩
  obtain ⟨hq, b, o, rfl, hb, c0, c1, c2, c3⟩ := h3 j q hj
  have hs := hn b b rfl rfl
  exact ⟨hq, b, o, rfl, Nat.lt_of_lt_of_le hb hf.size, (hf.cell (p := ⟨b, o + j * 4, none⟩) hb hs).trans c0, (hf.cell (p := ⟨b, o + j * 4 + 1, none⟩) hb hs).trans c1, (hf.cell (p := ⟨b, o + j * 4 + 2, none⟩) hb hs).trans c2, (hf.cell (p := ⟨b, o + j * 4 + 3, none⟩) hb hs).trans c3⟩

theorem open_ops {t e : TypeId} {fs : Array Field} {v : Value} {d : DataW H} {p : List MemPlace} (ht : P.underlying t = some (.slice e)) (he : P.underlying e = some (.struct fs)) (h4 : fs.size = 4) (hc : P.cellsOf e = 4) (hf : numFields P fs.toList 0 = true)
    (hv : Value.okWide P w r b0 t v) (h : DataW.Trod enc P w base sp held t v d p) : ∃ L : List Q4, Rq w v L := by
  obtain ⟨a, len, cap, rfl⟩ := okWide_slice ht hv
  obtain ⟨fuel, hf'⟩ := h
  rcases DataW.trod_slice ht hf' with ⟨hcs, _⟩ | ⟨x, l, c, elems, rest, n, _, hcs, _, hb, hl, hm, hlen, hel, _, _⟩
  · simp [Value.cells] at hcs
    obtain ⟨rfl, rfl, rfl⟩ := hcs
    exact ⟨[], none, 0, rfl, by simp, by simp, fun j q h => by simp at h⟩
  · simp [Value.cells] at hcs
    obtain ⟨rfl, rfl, rfl⟩ := hcs
    obtain ⟨b, o, sx⟩ := x
    have hsx : 0 < len → sx = none := fun h0 => by
      have h1 := hel 0 h0
      rw [hc, List.getElem?_eq_getElem (by omega), Option.bind_eq_some_iff] at h1
      obtain ⟨cs', hcs, hy⟩ := h1
      obtain ⟨_, hl4, hcell⟩ := World.cells?_some hcs
      have c0 := hcell 0 (by omega)
      rw [List.getElem?_eq_getElem (by omega)] at c0
      cases sx with
      | none => rfl
      | some n =>
        simp only [Addr.add, if_true, Nat.zero_mul, World.cell?, Option.isSome_some] at c0
        split at c0 <;> cases c0
    have each : ∀ i, i < len → ∃ q : Q4, q.ok ∧ sx = none ∧ b < w.heap.size ∧ w.cell? ⟨b, o + i * 4, none⟩ = some (.int .i64 q.a) ∧ w.cell? ⟨b, o + i * 4 + 1, none⟩ = some (.int .i64 q.b) ∧ w.cell? ⟨b, o + i * 4 + 2, none⟩ = some (.int .i64 q.c) ∧ w.cell? ⟨b, o + i * 4 + 3, none⟩ = some (.int .i64 q.d) := by
      intro i hi
      have h1 := hel i hi
      rw [hc, List.getElem?_eq_getElem (by omega), Option.bind_eq_some_iff] at h1
      obtain ⟨cs', hcs, hy⟩ := h1
      obtain ⟨_, hl4, hcell⟩ := World.cells?_some hcs
      obtain ⟨z, hz4, hz, hok⟩ := struct_of_trod he (by rw [hl4, h4]) hf hy
      rw [h4] at hz4
      match z, hz4 with
      | [za, zb, zc, zd], _ =>
        subst hz
        have c0 := hcell 0 (by omega)
        have c1 := hcell 1 (by omega)
        have c2 := hcell 2 (by omega)
        have c3 := hcell 3 (by omega)
        obtain rfl := hsx (by omega)
        simp only [Addr.add_lit, Nat.add_zero] at c0 c1 c2 c3
        exact ⟨⟨za, zb, zc, zd⟩, ⟨hok za (by simp), hok zb (by simp), hok zc (by simp), hok zd (by simp)⟩, rfl, World.block_lt_of_cell? w ⟨b, o + i * 4, none⟩ c0, c0, c1, c2, c3⟩
    obtain ⟨L, hL, hq⟩ := list_of len each
    refine ⟨L, some ⟨b, o, sx⟩, cap, by rw [hL], by omega, hm, fun j q hj => ?_⟩
    obtain ⟨h1, rfl, h3, h4⟩ := hq j q hj
    exact ⟨h1, b, o, rfl, h3, h4⟩

theorem open_nums {t e : TypeId} {v : Value} {d : DataW H} {p : List MemPlace} (ht : P.underlying t = some (.slice e)) (he : P.underlying e = some (.int .i64)) (hc : P.cellsOf e = 1)
    (hv : Value.okWide P w r b0 t v) (h : DataW.Trod enc P w base sp held t v d p) : ∃ l : List Int, (∀ n ∈ l, okN n) ∧ Rd w v (l.map (Value.int .i64)) := by
  obtain ⟨zs, hz, hr⟩ := open_row ht he hc hv h
  exact ⟨zs, fun n hn => wf_i64 (hz n hn), hr⟩
theorem open_bools {t e : TypeId} {v : Value} {d : DataW H} {p : List MemPlace} (ht : P.underlying t = some (.slice e)) (he : P.underlying e = some .bool) (hc : P.cellsOf e = 1)
    (hv : Value.okWide P w r b0 t v) (h : DataW.Trod enc P w base sp held t v d p) : ∃ l : List Bool, Rd w v (l.map Value.bool) := by
  obtain ⟨a, len, cap, rfl⟩ := okWide_slice ht hv
  obtain ⟨fuel, hf⟩ := h
  rcases DataW.trod_slice ht hf with ⟨hcs, _⟩ | ⟨x, l, c, elems, rest, n, _, hcs, _, hb, hl, hm, hlen, hel, _, _⟩
  · simp [Value.cells] at hcs
    obtain ⟨rfl, rfl, rfl⟩ := hcs
    exact ⟨[], Rd.nil_ w⟩
  · simp [Value.cells] at hcs
    obtain ⟨rfl, rfl, rfl⟩ := hcs
    obtain ⟨b, o, sx⟩ := x
    have hsx : 0 < len → sx = none := fun h0 => by
      have h1 := hel 0 h0
      rw [hc, List.getElem?_eq_getElem (by omega), Option.bind_eq_some_iff] at h1
      obtain ⟨cs', hcs, hy⟩ := h1
      obtain ⟨q, rfl, _⟩ := DataW.trod_bool he hy
      have c0 := cell_of_cells?_one hcs
      cases sx with
      | none => rfl
      | some n =>
        simp only [Addr.add, if_true, Nat.zero_mul, World.cell?, Option.isSome_some] at c0
        split at c0 <;> cases c0
    have each : ∀ i, i < len → ∃ q : Bool, sx = none ∧ b < w.heap.size ∧ w.cell? ⟨b, o + i, none⟩ = some (.bool q) := by
      intro i hi
      have h1 := hel i hi
      rw [hc, Nat.mul_one, List.getElem?_eq_getElem (by omega), Option.bind_eq_some_iff] at h1
      obtain ⟨cs', hcs, hy⟩ := h1
      obtain ⟨q, rfl, _⟩ := DataW.trod_bool he hy
      have c0 := cell_of_cells?_one hcs
      obtain rfl := hsx (by omega)
      rw [Addr.add_lit] at c0
      exact ⟨q, rfl, World.block_lt_of_cell? w ⟨b, o + i, none⟩ c0, c0⟩
    obtain ⟨L, hL, hq⟩ := list_of len each
    have hlen' : (L.map Value.bool).length = len := by simp [hL]
    refine ⟨L, some ⟨b, o, sx⟩, cap, by rw [hlen'], by omega, hm, fun j y hj => ?_⟩
    rw [List.getElem?_map, Option.map_eq_some_iff] at hj
    obtain ⟨q, hj, rfl⟩ := hj
    obtain ⟨rfl, h3, h4⟩ := hq j q hj
    exact ⟨b, o, rfl, h3, h4⟩
end
end Go.Proofs.Ytandenkoejbloaa
