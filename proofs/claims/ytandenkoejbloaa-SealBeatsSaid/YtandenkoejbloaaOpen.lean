/- The arguments of a law opened into my words. Plain: over any program. -/
import Derived.Test.YtandenkoejbloaaStr
import Derived.ProofKit
import Derived.OpenShut
import Derived.ShutString
import Derived.ChangeOld
import Derived.Lib.SmallJoins
namespace Go.Proofs.Ytandenkoejbloaa
open Go Go.RowKit Go.ChangeShapes Go.WideShapes Go.ChangeAt

theorem wf_u64 {n : Int} (h : (Lit.int .u64 n).wf = true) : ∃ x : W, n = u x := by
  refine ⟨BitVec.ofInt 64 n, ?_⟩
  rw [u_ofInt, IntKind.wrap_u64]
  have := bounds_u64 h
  omega
theorem wf_u8 {n : Int} (h : (Lit.int .u8 n).wf = true) : ∃ b : UInt8, n = v8 b := by
  have := bounds_u8 h
  refine ⟨UInt8.ofNat n.toNat, ?_⟩
  rw [← v8_ofNat]
  unfold IntKind.wrap; simp [IntKind.bits, IntKind.signed]; omega
theorem wf_i64 {n : Int} (h : (Lit.int .i64 n).wf = true) : -9223372036854775808 ≤ n ∧ n ≤ 9223372036854775807 := by
  have := bounds_i64 h; omega
/-- A number of a list in words. -/
def wv (x : W) : Value := .int .u64 (u x)
theorem wf_u64s : ∀ {zs : List Int}, (∀ n ∈ zs, (Lit.int .u64 n).wf = true) → ∃ l : List W, zs = l.map u
  | [], _ => ⟨[], rfl⟩
  | z :: zs, h => by
    obtain ⟨x, rfl⟩ := wf_u64 (h z (by simp))
    obtain ⟨l, rfl⟩ := wf_u64s (zs := zs) (fun n hn => h n (List.mem_cons_of_mem _ hn))
    exact ⟨x :: l, rfl⟩
theorem wf_u8s : ∀ {zs : List Int}, (∀ n ∈ zs, (Lit.int .u8 n).wf = true) → ∃ l : List UInt8, zs = l.map v8
  | [], _ => ⟨[], rfl⟩
  | z :: zs, h => by
    obtain ⟨x, rfl⟩ := wf_u8 (h z (by simp))
    obtain ⟨l, rfl⟩ := wf_u8s (zs := zs) (fun n hn => h n (List.mem_cons_of_mem _ hn))
    exact ⟨x :: l, rfl⟩

section
variable {H : Type} {enc : TypeId × Value → H} {P : Program} {w : World} {base : Nat} {sp : Nat → Bool} {held : Bool} {r : Reach} {b0 : Nat}

theorem rd_row {k : IntKind} {a : Option Addr} {len cap : Nat} {zs : List Int} (hl : len ≤ cap) (hm : cap ≤ maxLen) (hz : len ≤ zs.length) (hcell : ∀ i, i < zs.length → ∃ x, a = some x ∧ w.cell? (x.add i) = some (.int k (zs.getD i 0))) :
    Rd w (.slice a len cap) ((zs.take len).map (Value.int k)) := by
  have hlen : ((zs.take len).map (Value.int k)).length = len := by simp; omega
  refine ⟨a, cap, by rw [hlen], by omega, hm, fun j v hj => ?_⟩
  have hjl : j < len := by
    have := (List.getElem?_eq_some_iff.1 hj).1
    omega
  obtain ⟨x, rfl, h0⟩ := hcell 0 (by omega)
  have hsp : x.spot = none := by
    cases hs : x.spot with
    | none => rfl
    | some n =>
      simp only [Addr.add, if_true, World.cell?, hs, Option.isSome_some] at h0
      split at h0 <;> cases h0
  obtain ⟨b, o, s⟩ := x
  simp only at hsp; subst hsp
  refine ⟨b, o, rfl, ?_, ?_⟩
  · have := World.block_lt_of_cell? w _ h0
    simpa [Addr.add] using this
  · obtain ⟨x, e1, h1⟩ := hcell j (by omega)
    cases e1
    rw [Addr.add_lit] at h1
    rw [h1]
    have hjz : j < zs.length := by omega
    simp only [List.getElem?_map, List.getElem?_take_of_lt hjl, List.getElem?_eq_getElem hjz, Option.map_some] at hj
    rw [List.getD_eq_getElem?_getD, List.getElem?_eq_getElem hjz]
    exact hj

theorem open_row {k : IntKind} {t e : TypeId} {v : Value} {d : DataW H} {p : List MemPlace} (ht : P.underlying t = some (.slice e)) (he : P.underlying e = some (.int k)) (hc : P.cellsOf e = 1)
    (hv : Value.okWide P w r b0 t v) (h : DataW.Trod enc P w base sp held t v d p) : ∃ (zs : List Int), (∀ n ∈ zs, (Lit.int k n).wf = true) ∧ Rd w v (zs.map (Value.int k)) := by
  obtain ⟨a, len, cap, rfl⟩ := okWide_slice ht hv
  obtain ⟨fuel, hf⟩ := h
  rcases open_ints ht he hc hf with ⟨hcs, _⟩ | ⟨x, l, c, zs, hcs, _, hl, hm, hz, _, hcell, hwz⟩
  · simp [Value.cells] at hcs
    obtain ⟨rfl, rfl, rfl⟩ := hcs
    exact ⟨[], by simp, Rd.nil_ w⟩
  · simp [Value.cells] at hcs
    obtain ⟨rfl, rfl, rfl⟩ := hcs
    exact ⟨zs.take len, fun n hn => hwz n (List.mem_of_mem_take hn), rd_row hl hm (by rw [hz]; split <;> omega) (fun i hi => ⟨x, rfl, hcell i hi⟩)⟩

theorem open_bytes {t e : TypeId} {v : Value} {d : DataW H} {p : List MemPlace} (ht : P.underlying t = some (.slice e)) (he : P.underlying e = some (.int .u8)) (hc : P.cellsOf e = 1)
    (hv : Value.okWide P w r b0 t v) (h : DataW.Trod enc P w base sp held t v d p) : ∃ l : List UInt8, Rd w v (l.map bv) := by
  obtain ⟨zs, hz, hr⟩ := open_row ht he hc hv h
  obtain ⟨l, rfl⟩ := wf_u8s hz
  rw [List.map_map] at hr
  exact ⟨l, hr⟩
theorem open_words {t e : TypeId} {v : Value} {d : DataW H} {p : List MemPlace} (ht : P.underlying t = some (.slice e)) (he : P.underlying e = some (.int .u64)) (hc : P.cellsOf e = 1)
    (hv : Value.okWide P w r b0 t v) (h : DataW.Trod enc P w base sp held t v d p) : ∃ l : List W, Rd w v (l.map wv) := by
  obtain ⟨zs, hz, hr⟩ := open_row ht he hc hv h
  obtain ⟨l, rfl⟩ := wf_u64s hz
  rw [List.map_map] at hr
  exact ⟨l, hr⟩
theorem open_word {t : TypeId} {v : Value} {d : DataW H} {p : List MemPlace} (ht : P.underlying t = some (.int .u64)) (hv : Value.okWide P w r b0 t v) (h : DataW.Trod enc P w base sp held t v d p) : ∃ x : W, v = .int .u64 (u x) := by
  obtain ⟨n, rfl, _, _, hw⟩ := open_int ht hv h
  obtain ⟨x, rfl⟩ := wf_u64 hw
  exact ⟨x, rfl⟩
theorem open_byte {t : TypeId} {v : Value} {d : DataW H} {p : List MemPlace} (ht : P.underlying t = some (.int .u8)) (hv : Value.okWide P w r b0 t v) (h : DataW.Trod enc P w base sp held t v d p) : ∃ x : UInt8, v = .int .u8 (v8 x) := by
  obtain ⟨n, rfl, _, _, hw⟩ := open_int ht hv h
  obtain ⟨x, rfl⟩ := wf_u8 hw
  exact ⟨x, rfl⟩
theorem open_num {t : TypeId} {v : Value} {d : DataW H} {p : List MemPlace} (ht : P.underlying t = some (.int .i64)) (hv : Value.okWide P w r b0 t v) (h : DataW.Trod enc P w base sp held t v d p) :
    ∃ n : Int, v = .int .i64 n ∧ -9223372036854775808 ≤ n ∧ n ≤ 9223372036854775807 := by
  obtain ⟨n, rfl, _, _, hw⟩ := open_int ht hv h
  exact ⟨n, rfl, wf_i64 hw⟩
theorem open_str {t : TypeId} {v : Value} {d : DataW H} {p : List MemPlace} (ht : P.underlying t = some .string) (hv : Value.okWide P w r b0 t v) (h : DataW.Trod enc P w base sp held t v d p) :
    ∃ l : List UInt8, v = .string (bs l) ∧ l.length ≤ maxLen := by
  obtain ⟨s, rfl, _, _, hs⟩ := Go.ChangeMaps.open_string ht hv h
  exact ⟨s.data.toList, by rw [bs_of], by rw [← bs_size, bs_of]; exact hs⟩

/-- An array of words, by value. -/
theorem open_arr {t e : TypeId} {n : Nat} {v : Value} {d : DataW H} {p : List MemPlace} (ht : P.underlying t = some (.array n e)) (he : P.underlying e = some (.int .u64)) (hc : P.cellsOf e = 1) (hn : P.cellsOf t = n)
    (hv : Value.okWide P w r b0 t v) (h : DataW.Trod enc P w base sp held t v d p) : ∃ l : List W, l.length = n ∧ v = .agg (l.map wv).toArray := by
  obtain ⟨cs, rfl, hsz, _⟩ : ∃ cs, v = .agg cs ∧ cs.size = P.cellsOf t ∧ Row.okWide P w r b0 t cs := by simpa [Value.okWide, ht] using hv
  rw [hn] at hsz
  obtain ⟨fuel, hf⟩ := h
  obtain ⟨xs, m, _, _, hl, hx, hi⟩ := DataW.trod_array ht hf
  obtain ⟨cl⟩ := cs
  have hcl : cl.length = n := hsz
  have hall : ∀ i, i < n → ∃ x : W, cl[i]? = some (wv x) := by
    intro i hin
    have h1 := hi i hin
    rw [hc, Nat.mul_one] at h1
    have hx' : i < xs.length := by omega
    rw [List.getElem?_eq_getElem hx'] at h1
    obtain ⟨z, e1, _, hw⟩ := DataW.trod_int he h1
    obtain ⟨x, rfl⟩ := wf_u64 hw
    refine ⟨x, ?_⟩
    have h2 : ((cl.drop i).take 1)[0]? = some (wv x) := by
      have : (Value.agg { toList := cl }).cells.toList = cl := rfl
      rw [this] at e1
      rw [e1]; rfl
    rw [List.getElem?_take_of_lt (by omega), List.getElem?_drop] at h2
    simpa using h2
  have : ∀ (m : Nat) (c : List Value), c.length = m → (∀ i, i < m → ∃ x : W, c[i]? = some (wv x)) → ∃ l : List W, l.length = m ∧ c = l.map wv := by
    intro m
    induction m with
    | zero => intro c hc _; exact ⟨[], rfl, List.eq_nil_of_length_eq_zero hc⟩
    | succ m ih =>
      intro c hc hall
      cases c with
      | nil => simp at hc
      | cons a c =>
        obtain ⟨x, hx⟩ := hall 0 (by omega)
        obtain ⟨l, h1, h2⟩ := ih c (by simpa using hc) (fun i hi => by simpa using hall (i + 1) (by omega))
        simp at hx
        exact ⟨x :: l, by simp [h1], by simp [hx, h2]⟩
  obtain ⟨l, h1, h2⟩ := this n cl hcl hall
  exact ⟨l, h1, by rw [h2]⟩
theorem open_arr2 {t e : TypeId} {v : Value} {d : DataW H} {p : List MemPlace} (ht : P.underlying t = some (.array 2 e)) (he : P.underlying e = some (.int .u64)) (hc : P.cellsOf e = 1) (hn : P.cellsOf t = 2)
    (hv : Value.okWide P w r b0 t v) (h : DataW.Trod enc P w base sp held t v d p) : ∃ x : W × W, v = .agg #[.int .u64 (u x.1), .int .u64 (u x.2)] := by
  obtain ⟨l, hl, rfl⟩ := open_arr ht he hc hn hv h
  match l, hl with
  | [a, b], _ => exact ⟨(a, b), rfl⟩
theorem open_arr4 {t e : TypeId} {v : Value} {d : DataW H} {p : List MemPlace} (ht : P.underlying t = some (.array 4 e)) (he : P.underlying e = some (.int .u64)) (hc : P.cellsOf e = 1) (hn : P.cellsOf t = 4)
    (hv : Value.okWide P w r b0 t v) (h : DataW.Trod enc P w base sp held t v d p) : ∃ x : W × W × W × W, v = .agg #[.int .u64 (u x.1), .int .u64 (u x.2.1), .int .u64 (u x.2.2.1), .int .u64 (u x.2.2.2)] := by
  obtain ⟨l, hl, rfl⟩ := open_arr ht he hc hn hv h
  match l, hl with
  | [a, b, c, d], _ => exact ⟨(a, b, c, d), rfl⟩
end
end Go.Proofs.Ytandenkoejbloaa
