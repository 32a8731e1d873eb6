/- A struct of numbers as a law's argument, opened. Plain: over any program. -/
import Derived.Test.YtandenkoejbloaaOpen
import Derived.Test.YtandenkoejbloaaMsg
namespace Go.Proofs.Ytandenkoejbloaa
open Go Go.RowKit Go.ChangeShapes Go.WideShapes Go.ChangeAt
section
variable {H : Type} {enc : TypeId × Value → H} {P : Program} {w : World} {base : Nat} {sp : Nat → Bool} {held : Bool} {r : Reach} {b0 : Nat}

/-- Is every field, the i-th at the i-th cell, of a signed number's kind? -/
def numFields (P : Program) (fs : List Field) (i : Nat) : Bool :=
  match fs with
  | [] => true
  | f :: fs => Nat.beq f.offset i && Nat.beq (P.cellsOf f.type) 1 && (match P.underlying f.type with | some (.int .i64) => true | _ => false) && numFields P fs (i + 1)
theorem numFields_spec : ∀ (fs : List Field) (i : Nat), numFields P fs i = true → ∀ j f, fs[j]? = some f → f.offset = i + j ∧ P.cellsOf f.type = 1 ∧ P.underlying f.type = some (.int .i64)
  | [], _, _, j, f, h => by simp at h
  | g :: fs, i, h, j, f, hj => by
    rw [numFields] at h
    simp only [Bool.and_eq_true, Nat.beq_eq] at h
    cases j with
    | zero =>
      simp at hj; subst hj
      refine ⟨h.1.1.1, h.1.1.2, ?_⟩
      have h3 := h.1.2
      split at h3
      · assumption
      · cases h3
    | succ j =>
      have := numFields_spec fs (i + 1) h.2 j f (by simpa using hj)
      refine ⟨by rw [this.1]; omega, this.2⟩

theorem open_struct {t : TypeId} {fs : Array Field} {v : Value} {d : DataW H} {p : List MemPlace} (ht : P.underlying t = some (.struct fs)) (hc : P.cellsOf t = fs.size) (hf : numFields P fs.toList 0 = true)
    (hv : Value.okWide P w r b0 t v) (h : DataW.Trod enc P w base sp held t v d p) : ∃ l : List Int, l.length = fs.size ∧ v = .agg (l.map (Value.int .i64)).toArray ∧ ∀ n ∈ l, -9223372036854775808 ≤ n ∧ n ≤ 9223372036854775807 := by
  obtain ⟨cs, rfl, hsz, _⟩ : ∃ cs, v = .agg cs ∧ cs.size = P.cellsOf t ∧ Row.okWide P w r b0 t cs := by simpa [Value.okWide, ht] using hv
  obtain ⟨fuel, hf'⟩ := h
  obtain ⟨xs, m, _, _, hl, hx, hi⟩ := DataW.trod_struct ht hf'
  obtain ⟨cl⟩ := cs
  have hcl : cl.length = fs.size := by rw [← hc]; exact hsz
  have hall : ∀ i, i < fs.size → ∃ n : Int, cl[i]? = some (Value.int .i64 n) ∧ -9223372036854775808 ≤ n ∧ n ≤ 9223372036854775807 := by
    intro i hin
    have hfi : fs[i]? = some fs[i] := Array.getElem?_eq_getElem hin
    obtain ⟨ho, hc1, hu⟩ := numFields_spec fs.toList 0 hf i fs[i] (by rw [Array.getElem?_toList]; exact hfi)
    have h1 := hi i _ hfi
    rw [hc1, ho, Nat.zero_add] at h1
    have hx' : i < xs.length := by omega
    rw [List.getElem?_eq_getElem hx'] at h1
    obtain ⟨z, e1, _, hw⟩ := DataW.trod_int hu h1
    refine ⟨z, ?_, wf_i64 hw⟩
    have h2 : ((cl.drop i).take 1)[0]? = some (Value.int .i64 z) := by
      have : (Value.agg { toList := cl }).cells.toList = cl := rfl
      rw [this] at e1
      rw [e1]; rfl
    rw [List.getElem?_take_of_lt (by omega), List.getElem?_drop] at h2
    simpa using h2
  have : ∀ (m : Nat) (c : List Value), c.length = m → (∀ i, i < m → ∃ n : Int, c[i]? = some (Value.int .i64 n) ∧ -9223372036854775808 ≤ n ∧ n ≤ 9223372036854775807) →
      ∃ l : List Int, l.length = m ∧ c = l.map (Value.int .i64) ∧ ∀ n ∈ l, -9223372036854775808 ≤ n ∧ n ≤ 9223372036854775807 := by
    intro m
    induction m with
    | zero => intro c hc _; exact ⟨[], rfl, List.eq_nil_of_length_eq_zero hc, by simp⟩
    | succ m ih =>
      intro c hc hall
      cases c with
      | nil => simp at hc
      | cons a c =>
        obtain ⟨x, hx, hb⟩ := hall 0 (by omega)
        obtain ⟨l, h1, h2, h3⟩ := ih c (by simpa using hc) (fun i hi => by simpa using hall (i + 1) (by omega))
        simp at hx
        refine ⟨x :: l, by simp [h1], by simp [hx, h2], fun n hn => ?_⟩
        rcases List.mem_cons.1 hn with rfl | hn
        · exact hb
        · exact h3 n hn
  obtain ⟨l, h1, h2, h3⟩ := this fs.size cl hcl hall
  exact ⟨l, h1, by rw [h2], h3⟩

/-- A message, as a value. -/
def msgv (m : Ms) : Value := .agg #[.int .i64 m.kind, .int .i64 m.who, .int .i64 m.gen, .int .i64 m.seq, .int .i64 m.epoch, .int .i64 m.value, .int .i64 m.metric]
def okN (n : Int) : Prop := -9223372036854775808 ≤ n ∧ n ≤ 9223372036854775807
def okM (m : Ms) : Prop := okN m.kind ∧ okN m.who ∧ okN m.gen ∧ okN m.seq ∧ okN m.epoch ∧ okN m.value ∧ okN m.metric
theorem open_msg {t : TypeId} {fs : Array Field} {v : Value} {d : DataW H} {p : List MemPlace} (ht : P.underlying t = some (.struct fs)) (hc : P.cellsOf t = fs.size) (hf : numFields P fs.toList 0 = true) (h7 : fs.size = 7)
    (hv : Value.okWide P w r b0 t v) (h : DataW.Trod enc P w base sp held t v d p) : ∃ m : Ms, okM m ∧ v = msgv m := by
  obtain ⟨l, hl, rfl, hb⟩ := open_struct ht hc hf hv h
  rw [h7] at hl
  match l, hl with
  | [a, b, c, e, f, g, i], _ => exact ⟨⟨a, b, c, e, f, g, i⟩, ⟨hb a (by simp), hb b (by simp), hb c (by simp), hb e (by simp), hb f (by simp), hb g (by simp), hb i (by simp)⟩, rfl⟩
end
end Go.Proofs.Ytandenkoejbloaa
