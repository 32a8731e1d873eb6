/- A region that draws its order and whose acting operations stand in one forced row: one walk, in an order of the prover's choice, serves every order. Plain: over any program. -/
import Derived.OrdersHeld
import Derived.Deep.RegionHeld3
namespace Go.Proofs.Ytandenkoejbloaa
open Go
section
variable {P : Program} {ops : Array Oper} {Q : Exit → Act → World → Prop} {U : World → Prop} {nz bd : Nat → Bool}

/-- Whatever order is picked from here on; what does not act leaves the world; U holds throughout. -/
def wpAnyV (P : Program) (ops : Array Oper) (Q : Exit → Act → World → Prop) (U : World → Prop) (nz : Nat → Bool) : Nat → Array Bool → Act → World → Prop
  | 0, listed, a, w => Region.ready .any ops listed = [] ∧ Q .normal a w
  | fuel + 1, listed, a, w =>
    (Region.ready .any ops listed = [] → Q .normal a w) ∧
    ∀ i ∈ Region.ready .any ops listed, wpOp P ops Q i (fun a' w' => (nz i = false → w' = w) ∧ U w' ∧ wpAnyV P ops Q U nz fuel (listed.setIfInBounds i true) a' w') a w

theorem wpAny_of_V : ∀ (fuel : Nat) (listed : Array Bool) (a : Act) (w : World), wpAnyV P ops Q U nz fuel listed a w → wpAny P .any ops Q fuel listed a w
  | 0, _, _, _, h => h
  | fuel + 1, _, _, _, h => ⟨h.1, fun i hi => wpOp_mono (fun a' w' h' => wpAny_of_V fuel _ a' w' h'.2.2) (h.2 i hi)⟩

/-- Does operation j wait, directly or through others, for operation i? -/
def waitsFor (ops : Array Oper) : Nat → Nat → Nat → Bool
  | 0, _, _ => false
  | n + 1, j, i => match ops[j]? with
    | none => false
    | some o => o.after.any fun e => Region.binds .any e && (e.on == i || waitsFor ops n e.on i)

/-- Whoever has come up has those before it that it waits for. -/
def Closed (ops : Array Oper) (listed : Array Bool) : Prop :=
  ∀ j o, listed.getD j false = true → ops[j]? = some o → ∀ e ∈ o.after, Region.binds .any e = true → listed.getD e.on false = true

theorem closed_waits {listed : Array Bool} (hc : Closed ops listed) : ∀ (n j i : Nat), waitsFor ops n j i = true → listed.getD j false = true → listed.getD i false = true
  | 0, _, _, h, _ => by simp [waitsFor] at h
  | n + 1, j, i, h, hj => by
    unfold waitsFor at h
    split at h
    · cases h
    · rename_i o ho
      obtain ⟨e, he, hb⟩ := Array.any_eq_true'.1 h
      simp only [Bool.and_eq_true, Bool.or_eq_true, beq_iff_eq] at hb
      have hl := hc j o hj ho e he hb.1
      rcases hb.2 with rfl | h2
      · exact hl
      · exact closed_waits hc n e.on i h2 hl

theorem ready_waits {listed : Array Bool} (hc : Closed ops listed) {n j i : Nat} (h : waitsFor ops n j i = true) (hj : j ∈ Region.ready .any ops listed) : listed.getD i false = true := by
  obtain ⟨_, o, ho, hall⟩ := mem_ready.1 hj
  cases n with
  | zero => simp [waitsFor] at h
  | succ n =>
    unfold waitsFor at h
    simp only [ho] at h
    obtain ⟨e, he, hb⟩ := Array.any_eq_true'.1 h
    simp only [Bool.and_eq_true, Bool.or_eq_true, beq_iff_eq] at hb
    have hl := hall e he hb.1
    rcases hb.2 with rfl | h2
    · exact hl
    · exact closed_waits hc n e.on i h2 hl

theorem closed_set {listed : Array Bool} (hc : Closed ops listed) {i : Nat} (hi : i ∈ Region.ready .any ops listed) : Closed ops (listed.setIfInBounds i true) := by
  intro j o hj ho e he hb
  by_cases hji : i = j
  · subst hji
    obtain ⟨_, o', ho', hall⟩ := mem_ready.1 hi
    rw [ho] at ho'; cases ho'
    exact getD_set_true (hall e he hb)
  · rw [getD_set_ne false hji] at hj
    exact getD_set_true (hc j o hj ho e he hb)

theorem getD_false_of_true {listed : Array Bool} {i : Nat} (h : listed.getD i true = false) : listed.getD i false = false := by
  rcases Nat.lt_or_ge i listed.size with h' | h'
  · simp [h'] at h ⊢; exact h
  · simp [Array.getElem?_eq_none h']

theorem wpAnyV_first {i : Nat} {oi : Oper} {v : Value} {S : World → Prop} (hi : ops[i]? = some oi) (hsel : ∀ (j : Nat) (o : Oper) cs b, ops[j]? = some o → o.op ≠ .select cs b)
    (hQ : ∀ c a w, Q (.panic c) (a.put oi.dst v) w → Q (.panic c) a w) (hni : nz i = false) :
    ∀ (fuel : Nat) (listed : Array Bool) (a : Act) (w : World), Closed ops listed →
      ((∀ w, U w → S w) ∨ ∀ j, nz j = true → listed.getD j true = true ∨ waitsFor ops ops.size j i = true) →
      (∀ j oj, ops[j]? = some oj → j ≠ i → listed.getD j true = false → (∀ e ∈ oj.after, Region.binds .any e = true → e.on ≠ i) → oi.apart ops oj = true) →
      i ∈ Region.ready .any ops listed → YieldsIf P ops S oi v a → S w → U w →
      wpAnyV P ops Q U nz fuel (listed.setIfInBounds i true) (a.put oi.dst v) w → wpAnyV P ops Q U nz (fuel + 1) listed a w := by
  intro fuel
  induction fuel with
  | zero =>
    intro listed a w hc hb _ hr hy hS hU H
    refine ⟨fun h => (by rw [h] at hr; cases hr), fun j hj => ?_⟩
    by_cases hji : j = i
    · subst hji; exact hy.wpOp hi hS ⟨fun _ => rfl, hU, H⟩
    · have := ready_mono hj hji
      rw [H.1] at this
      cases this
  | succ fuel ih =>
    intro listed a w hc hb hfree hr hy hS hU H
    refine ⟨fun h => (by rw [h] at hr; cases hr), fun j hj => ?_⟩
    by_cases hji : j = i
    · subst hji; exact hy.wpOp hi hS ⟨fun _ => rfl, hU, H⟩
    · have h1 := H.2 j (ready_mono hj hji)
      obtain ⟨hjun, oj, hoj, hall⟩ := mem_ready.1 hj
      have hiun := (mem_ready.1 hr).1
      have hnot : ∀ e ∈ oj.after, Region.binds .any e = true → e.on ≠ i := fun e he hb heq => by
        have h1 := hall e he hb
        rw [heq, getD_false_of_true hiun] at h1
        cases h1
      have h2 := wpOp_putIf hoj (hfree j oj hoj hji hjun hnot) (fun cs b => hsel i oi cs b hi) (fun cs b => hsel j oj cs b hoj) hQ hy h1
      have hfree' : ∀ k ok, ops[k]? = some ok → k ≠ i → (listed.setIfInBounds j true).getD k true = false →
          (∀ e ∈ ok.after, Region.binds .any e = true → e.on ≠ i) → oi.apart ops ok = true := fun k ok hk hki hun hno => by
        refine hfree k ok hk hki ?_ hno
        by_cases hjk : j = k
        · subst hjk; exact hjun
        · rw [getD_set_ne true hjk] at hun; exact hun
      have hb' : (∀ w, U w → S w) ∨ ∀ k, nz k = true → (listed.setIfInBounds j true).getD k true = true ∨ waitsFor ops ops.size k i = true := by
        refine hb.imp id fun h k hk => ?_
        rcases h k hk with h | h
        · left
          by_cases hjk : j = k
          · subst hjk
            rcases Nat.lt_or_ge j listed.size with h' | h'
            · simp [h']
            · simp [h']
          · rw [getD_set_ne true hjk]; exact h
        · exact .inr h
      have hS' : ∀ w', (nz j = false → w' = w) → U w' → S w' := fun w' he hu => by
        cases hnj : nz j with
        | false => rw [he hnj]; exact hS
        | true =>
          rcases hb with h | h
          · exact h w' hu
          · rcases h j hnj with h | h
            · rw [hjun] at h; cases h
            · have := ready_waits hc h hj
              rw [getD_false_of_true hiun] at this; cases this
      refine wpOp_mono (fun a' w' h3 => ⟨h3.2.1, h3.2.2.1, ih (listed.setIfInBounds j true) a' w' (closed_set hc hj) hb' hfree' (ready_mono hr (Ne.symm hji)) h3.1 (hS' w' h3.2.1 h3.2.2.1) h3.2.2.1 ?_⟩) h2
      rw [Array.setIfInBounds_comm _ _ hji]
      exact h3.2.2.2

/-- THE WALK, in the order π: what acts (nz) by its own wp; what is bound (bd: it stands in one stage alone) at the world at hand; all else in every world that meets U. -/
def wpPi (P : Program) (ops : Array Oper) (Q : Exit → Act → World → Prop) (U : World → Prop) (nz bd : Nat → Bool) : List Nat → Act → World → Prop
  | [], a, w => Q .normal a w
  | i :: rest, a, w =>
    if nz i then wpOp P ops Q i (fun a' w' => U w' ∧ wpPi P ops Q U nz bd rest a' w') a w
    else ∃ o v, ops[i]? = some o ∧ YieldsIf P ops (if bd i then (fun w' => w' = w) else U) o v a ∧ wpPi P ops Q U nz bd rest (a.put o.dst v) w

def piOk (ops : Array Oper) (nz bd : Nat → Bool) : List Nat → Array Bool → Bool
  | [], listed => (Region.ready .any ops listed).isEmpty
  | i :: rest, listed =>
    (if nz i then Region.ready .any ops listed == [i]
     else (Region.ready .any ops listed).contains i && Region.free .any ops listed i && (!bd i || (List.range ops.size).all fun j => !nz j || listed.getD j true || waitsFor ops ops.size j i))
    && piOk ops nz bd rest (listed.setIfInBounds i true)

theorem wpAnyV_of_pi (hsel : ∀ (j : Nat) (o : Oper) cs b, ops[j]? = some o → o.op ≠ .select cs b) (hQ : ∀ c a d v w, Q (.panic c) (Act.put a d v) w → Q (.panic c) a w) (hnz : ∀ j, nz j = true → j < ops.size) :
    ∀ (π : List Nat) (listed : Array Bool) (a : Act) (w : World), piOk ops nz bd π listed = true → Closed ops listed → U w → wpPi P ops Q U nz bd π a w → wpAnyV P ops Q U nz π.length listed a w
  | [], listed, a, w, hok, _, _, h => ⟨by simpa [piOk] using hok, h⟩
  | i :: rest, listed, a, w, hok, hc, hU, h => by
    simp only [piOk, Bool.and_eq_true] at hok
    obtain ⟨h1, h2⟩ := hok
    unfold wpPi at h
    cases hn : nz i with
    | true =>
      simp only [hn, if_true, beq_iff_eq] at h1 h
      have hr : i ∈ Region.ready .any ops listed := by rw [h1]; simp
      refine ⟨fun h0 => (by rw [h0] at hr; cases hr), fun j hj => ?_⟩
      rw [h1] at hj
      obtain rfl : j = i := by simpa using hj
      exact wpOp_mono (fun a' w' h3 => ⟨fun h0 => (by rw [hn] at h0; cases h0), h3.1, wpAnyV_of_pi hsel hQ hnz rest _ a' w' h2 (closed_set hc hr) h3.1 h3.2⟩) h
    | false =>
      simp only [hn, Bool.false_eq_true, if_false, Bool.and_eq_true] at h1 h
      obtain ⟨⟨hr, hf⟩, hbd⟩ := h1
      obtain ⟨o, v, ho, hy, h⟩ := h
      have hr' : i ∈ Region.ready .any ops listed := by simpa using hr
      have hrec := wpAnyV_of_pi hsel hQ hnz rest (listed.setIfInBounds i true) _ w h2 (closed_set hc hr') hU h
      refine wpAnyV_first ho hsel (fun c a w => hQ c a _ _ w) hn rest.length listed a w hc ?_ (Region.free_spec ho hf) hr' hy ?_ hU hrec
      · cases hb : bd i with
        | false => left; intro w hw; simpa [hb] using hw
        | true =>
          right
          intro j hj
          simp only [hb, Bool.not_true, Bool.false_or, List.all_eq_true, List.mem_range] at hbd
          have := hbd j (hnz j hj)
          simpa [hj] using this
      · cases hb : bd i with
        | false => simpa [hb] using hU
        | true => simp

/-- THE DOOR. -/
theorem region_pi {id : Nat} {a : Act} {w : World} (nl bl π : List Nat) (U : World → Prop) (hm : P.follows .mixedOrders = true) (hs : Region.noSelect ops = true)
    (hlt : nl.all (fun j => decide (j < ops.size)) = true) (hok : piOk ops (fun i => nl.contains i) (fun i => bl.contains i) π (Array.replicate ops.size false) = true) (hlen : π.length = ops.size)
    (hU : U w.drew) (h : wpPi P ops (NoPanic Q) U (fun i => nl.contains i) (fun i => bl.contains i) π a w.drew) : (Code.region id ops true).wp P Q a w := by
  refine wp_region_noPanic (wp_region_any hm (wpAny_of_V (U := U) (nz := fun i => nl.contains i) _ _ _ _ ?_))
  rw [← hlen]
  refine wpAnyV_of_pi (Region.noSelect_spec hs) (fun c a d v w h => h) (fun j hj => ?_) π _ a w.drew (by rw [hlen]; exact hok) ?_ hU h
  · have := List.all_eq_true.1 hlt j (by simpa using hj)
    simpa using this
  · intro j o hj
    rcases Nat.lt_or_ge j π.length with h' | h' <;> simp [h'] at hj

theorem pi_float {i : Nat} {rest : List Nat} {a a' : Act} {w : World} {dst : Option Tmp} {op : Op} {type : TypeId} {pos : String} {after : Array Edge} {guard : Option (Nat × Bool)} {v : Value} (hn : nz i = false) (hb : bd i = false)
    (ho : ops[i]? = some ⟨dst, op, type, pos, after, guard⟩) (hw : Region.wanted ⟨dst, op, type, pos, after, guard⟩ (yielded ops a.tmps) = true)
    (hy : ∀ w', U w' → (execOp a.eval ⟨dst, op, type, pos, after, guard⟩).run P w' = .ok (.value v) w') (ha : a.put dst v = a') (h : wpPi P ops Q U nz bd rest a' w) : wpPi P ops Q U nz bd (i :: rest) a w := by
  subst ha
  unfold wpPi
  simp only [hn, hb, Bool.false_eq_true, if_false]
  exact ⟨_, v, ho, .inl ⟨hw, hy⟩, h⟩

theorem pi_bound {i : Nat} {rest : List Nat} {a a' : Act} {w : World} {dst : Option Tmp} {op : Op} {type : TypeId} {pos : String} {after : Array Edge} {guard : Option (Nat × Bool)} {v : Value} (hn : nz i = false) (hb : bd i = true)
    (ho : ops[i]? = some ⟨dst, op, type, pos, after, guard⟩) (hw : Region.wanted ⟨dst, op, type, pos, after, guard⟩ (yielded ops a.tmps) = true)
    (hy : (execOp a.eval ⟨dst, op, type, pos, after, guard⟩).run P w = .ok (.value v) w) (ha : a.put dst v = a') (h : wpPi P ops Q U nz bd rest a' w) : wpPi P ops Q U nz bd (i :: rest) a w := by
  subst ha
  unfold wpPi
  simp only [hn, hb, Bool.false_eq_true, if_false, if_true]
  exact ⟨_, v, ho, .inl ⟨hw, fun w' hw' => by rw [hw']; exact hy⟩, h⟩

theorem pi_skip {i : Nat} {rest : List Nat} {a a' : Act} {w : World} {dst : Option Tmp} {op : Op} {type : TypeId} {pos : String} {after : Array Edge} {guard : Option (Nat × Bool)} (hn : nz i = false)
    (ho : ops[i]? = some ⟨dst, op, type, pos, after, guard⟩) (hw : Region.wanted ⟨dst, op, type, pos, after, guard⟩ (yielded ops a.tmps) = false)
    (ha : a.put dst undef = a') (h : wpPi P ops Q U nz bd rest a' w) : wpPi P ops Q U nz bd (i :: rest) a w := by
  subst ha
  unfold wpPi
  simp only [hn, Bool.false_eq_true, if_false]
  exact ⟨_, undef, ho, .inr ⟨hw, rfl⟩, h⟩

theorem pi_acts {i : Nat} {rest : List Nat} {a : Act} {w : World} {dst : Option Tmp} {op : Op} {type : TypeId} {pos : String} {after : Array Edge} {guard : Option (Nat × Bool)} (hn : nz i = true)
    (ho : ops[i]? = some ⟨dst, op, type, pos, after, guard⟩) (hw : Region.wanted ⟨dst, op, type, pos, after, guard⟩ (yielded ops a.tmps) = true)
    (h : ∀ K : Act → World → Prop, Shut (∀ a w, U w → wpPi P ops Q U nz bd rest a w → K a w) → Oper.wp P ⟨dst, op, type, pos, after, guard⟩ a w K Q) : wpPi P ops Q U nz bd (i :: rest) a w := by
  unfold wpPi
  simp only [hn, if_true]
  unfold wpOp
  simp only [ho, hw, if_true]
  exact .inl (h _ fun a w hu hr => ⟨hu, hr⟩)

theorem pi_done {a : Act} {w : World} (h : Q .normal a w) : wpPi P ops (NoPanic Q) U nz bd [] a w := h

/-! ### Several rows of acting operations: a tree of orders -/
inductive PTree where
  | done
  | quiet (i : Nat) (t : PTree)
  | alt (i : Nat) (t r : PTree)
  | fin

def PTree.heads : PTree → List Nat
  | .alt i _ r => i :: r.heads
  | _ => []

def wpT (P : Program) (ops : Array Oper) (Q : Exit → Act → World → Prop) (U : World → Prop) (bd : Nat → Bool) : PTree → Act → World → Prop
  | .done, a, w => Q .normal a w
  | .quiet i t, a, w => ∃ o v, ops[i]? = some o ∧ YieldsIf P ops (if bd i then (fun w' => w' = w) else U) o v a ∧ wpT P ops Q U bd t (a.put o.dst v) w
  | .alt i t r, a, w => wpOp P ops Q i (fun a' w' => U w' ∧ wpT P ops Q U bd t a' w') a w ∧ wpT P ops Q U bd r a w
  | .fin, _, _ => True

def tOk (ops : Array Oper) (nz bd : Nat → Bool) : Bool → Nat → PTree → Array Bool → Bool
  | al, _, .done, listed => !al && (Region.ready .any ops listed).isEmpty
  | al, n + 1, .quiet i t, listed => !al && !nz i && (Region.ready .any ops listed).contains i && Region.free .any ops listed i && (!bd i || (List.range ops.size).all fun j => !nz j || listed.getD j true || waitsFor ops ops.size j i) && tOk ops nz bd false n t (listed.setIfInBounds i true)
  | al, n + 1, .alt i t r, listed => (al || Region.ready .any ops listed == i :: r.heads) && nz i && (Region.ready .any ops listed).contains i && tOk ops nz bd false n t (listed.setIfInBounds i true) && tOk ops nz bd true (n + 1) r listed
  | al, _, .fin, _ => al
  | _, 0, _, _ => false

theorem wpAnyV_of_T (hsel : ∀ (j : Nat) (o : Oper) cs b, ops[j]? = some o → o.op ≠ .select cs b) (hQ : ∀ c a d v w, Q (.panic c) (Act.put a d v) w → Q (.panic c) a w) (hnz : ∀ j, nz j = true → j < ops.size) :
    ∀ (t : PTree) (al : Bool) (n : Nat) (listed : Array Bool) (a : Act) (w : World), tOk ops nz bd al n t listed = true → Closed ops listed → U w → wpT P ops Q U bd t a w →
      (al = false → wpAnyV P ops Q U nz n listed a w) ∧ (∀ m, n = m + 1 → ∀ i ∈ t.heads, wpOp P ops Q i (fun a' w' => (nz i = false → w' = w) ∧ U w' ∧ wpAnyV P ops Q U nz m (listed.setIfInBounds i true) a' w') a w) := by
  intro t
  induction t with
  | done =>
    intro al n listed a w hok _ _ h
    refine ⟨fun _ => ?_, fun m hm i hi => by simp [PTree.heads] at hi⟩
    have hr : Region.ready .any ops listed = [] := by
      cases al <;> cases n <;> simp [tOk] at hok <;> exact hok
    cases n with
    | zero => exact ⟨hr, h⟩
    | succ n => exact ⟨fun _ => h, by rw [hr]; simp⟩
  | fin =>
    intro al n listed a w hok _ _ h
    refine ⟨fun hal => ?_, fun m hm i hi => by simp [PTree.heads] at hi⟩
    subst hal
    cases n <;> simp [tOk] at hok
  | quiet i t ih =>
    intro al n listed a w hok hc hU h
    refine ⟨fun hal => ?_, fun m hm i hi => by simp [PTree.heads] at hi⟩
    cases n with
    | zero => simp [tOk] at hok
    | succ n =>
      simp only [tOk, Bool.and_eq_true, Bool.not_eq_true'] at hok
      obtain ⟨⟨⟨⟨⟨_, hn⟩, hr⟩, hf⟩, hbd⟩, h2⟩ := hok
      obtain ⟨o, v, ho, hy, h⟩ := h
      have hr' : i ∈ Region.ready .any ops listed := by simpa using hr
      have hrec := (ih false n (listed.setIfInBounds i true) _ w h2 (closed_set hc hr') hU h).1 rfl
      refine wpAnyV_first ho hsel (fun c a w => hQ c a _ _ w) hn n listed a w hc ?_ (Region.free_spec ho hf) hr' hy ?_ hU hrec
      · cases hb : bd i with
        | false => left; intro w hw; simpa [hb] using hw
        | true =>
          right
          intro j hj
          simp only [hb, Bool.not_true, Bool.false_or, List.all_eq_true, List.mem_range] at hbd
          have := hbd j (hnz j hj)
          simpa [hj] using this
      · cases hb : bd i with
        | false => simpa [hb] using hU
        | true => simp
  | alt i t r iht ihr =>
    intro al n listed a w hok hc hU h
    cases n with
    | zero => simp [tOk] at hok
    | succ n =>
      simp only [tOk, Bool.and_eq_true, Bool.or_eq_true, beq_iff_eq] at hok
      obtain ⟨⟨⟨⟨hal, hn⟩, hr⟩, h2⟩, h3⟩ := hok
      obtain ⟨h4, h5⟩ := h
      have hr' : i ∈ Region.ready .any ops listed := by simpa using hr
      have hi : wpOp P ops Q i (fun a' w' => (nz i = false → w' = w) ∧ U w' ∧ wpAnyV P ops Q U nz n (listed.setIfInBounds i true) a' w') a w :=
        wpOp_mono (fun a' w' h6 => ⟨fun h0 => (by rw [hn] at h0; cases h0), h6.1, (iht false n _ a' w' h2 (closed_set hc hr') h6.1 h6.2).1 rfl⟩) h4
      have hrest := (ihr true (n + 1) listed a w h3 hc hU h5).2 n rfl
      have hall : ∀ j ∈ (PTree.alt i t r).heads, wpOp P ops Q j (fun a' w' => (nz j = false → w' = w) ∧ U w' ∧ wpAnyV P ops Q U nz n (listed.setIfInBounds j true) a' w') a w := by
        intro j hj
        rcases List.mem_cons.1 hj with rfl | hj
        · exact hi
        · exact hrest j hj
      refine ⟨fun ha => ?_, fun m hm => by obtain rfl : n = m := by omega
                                           exact hall⟩
      subst ha
      have hre : Region.ready .any ops listed = i :: r.heads := by simpa using hal
      exact ⟨fun h0 => (by rw [h0] at hre; cases hre), fun j hj => hall j (by rw [hre] at hj; exact hj)⟩

/-- THE DOOR, for a tree. -/
theorem region_t {id : Nat} {a : Act} {w : World} (nl bl : List Nat) (t : PTree) (U : World → Prop) (hm : P.follows .mixedOrders = true) (hs : Region.noSelect ops = true)
    (hlt : nl.all (fun j => decide (j < ops.size)) = true) (hok : tOk ops (fun i => nl.contains i) (fun i => bl.contains i) false ops.size t (Array.replicate ops.size false) = true)
    (hU : U w.drew) (h : wpT P ops (NoPanic Q) U (fun i => bl.contains i) t a w.drew) : (Code.region id ops true).wp P Q a w := by
  refine wp_region_noPanic (wp_region_any hm (wpAny_of_V (U := U) (nz := fun i => nl.contains i) _ _ _ _ ?_))
  refine (wpAnyV_of_T (Region.noSelect_spec hs) (fun c a d v w h => h) (fun j hj => ?_) t false ops.size _ a w.drew hok ?_ hU h).1 rfl
  · have := List.all_eq_true.1 hlt j (by simpa using hj)
    simpa using this
  · intro j o hj
    rcases Nat.lt_or_ge j ops.size with h' | h' <;> simp [h'] at hj

section
variable {i : Nat} {t r : PTree} {a a' : Act} {w : World} {dst : Option Tmp} {op : Op} {type : TypeId} {pos : String} {after : Array Edge} {guard : Option (Nat × Bool)} {v : Value}
theorem t_float (hb : bd i = false) (ho : ops[i]? = some ⟨dst, op, type, pos, after, guard⟩) (hw : Region.wanted ⟨dst, op, type, pos, after, guard⟩ (yielded ops a.tmps) = true)
    (hy : ∀ w', U w' → (execOp a.eval ⟨dst, op, type, pos, after, guard⟩).run P w' = .ok (.value v) w') (ha : a.put dst v = a') (h : wpT P ops Q U bd t a' w) : wpT P ops Q U bd (.quiet i t) a w := by
  subst ha
  refine ⟨_, v, ho, ?_, h⟩
  simp only [hb, Bool.false_eq_true, if_false]
  exact .inl ⟨hw, hy⟩
theorem t_bound (hb : bd i = true) (ho : ops[i]? = some ⟨dst, op, type, pos, after, guard⟩) (hw : Region.wanted ⟨dst, op, type, pos, after, guard⟩ (yielded ops a.tmps) = true)
    (hy : (execOp a.eval ⟨dst, op, type, pos, after, guard⟩).run P w = .ok (.value v) w) (ha : a.put dst v = a') (h : wpT P ops Q U bd t a' w) : wpT P ops Q U bd (.quiet i t) a w := by
  subst ha
  refine ⟨_, v, ho, ?_, h⟩
  simp only [hb, if_true]
  exact .inl ⟨hw, fun w' hw' => by rw [hw']; exact hy⟩
theorem t_skip (ho : ops[i]? = some ⟨dst, op, type, pos, after, guard⟩) (hw : Region.wanted ⟨dst, op, type, pos, after, guard⟩ (yielded ops a.tmps) = false)
    (ha : a.put dst undef = a') (h : wpT P ops Q U bd t a' w) : wpT P ops Q U bd (.quiet i t) a w := by
  subst ha
  exact ⟨_, undef, ho, .inr ⟨hw, rfl⟩, h⟩
theorem t_acts (ho : ops[i]? = some ⟨dst, op, type, pos, after, guard⟩) (hw : Region.wanted ⟨dst, op, type, pos, after, guard⟩ (yielded ops a.tmps) = true)
    (h : ∀ K : Act → World → Prop, Shut (∀ a w, U w → wpT P ops Q U bd t a w → K a w) → Oper.wp P ⟨dst, op, type, pos, after, guard⟩ a w K Q) (hr : wpT P ops Q U bd r a w) : wpT P ops Q U bd (.alt i t r) a w := by
  refine ⟨?_, hr⟩
  unfold wpOp
  simp only [ho, hw, if_true]
  exact .inl (h _ fun a w hu hr => ⟨hu, hr⟩)
theorem t_fin : wpT P ops Q U bd .fin a w := trivial
theorem t_done (h : Q .normal a w) : wpT P ops (NoPanic Q) U bd .done a w := h
end
end
end Go.Proofs.Ytandenkoejbloaa
