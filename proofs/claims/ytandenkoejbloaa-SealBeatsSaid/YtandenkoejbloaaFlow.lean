/- A region that draws its order, walked as a flow of data: each operation once, at an arbitrary frame of which its predecessors' slots are known. Plain: over any program. -/
import Derived.Test.YtandenkoejbloaaRegM
namespace Go.Proofs.Ytandenkoejbloaa
open Go
section
variable {P : Program} {ops : Array Oper} {Q : Exit → Act → World → Prop} {U : World → Prop} {G : Nat → Value → World → Prop} {S : World → World → Prop} {a0 : Act}

/-- What an operation finds when its turn comes: p are those that it waits for. -/
structure Found (ops : Array Oper) (a0 : Act) (G : Nat → Value → World → Prop) (p : Nat) (a : Act) (w : World) : Prop where
  got : ∀ j o, has p j = true → ops[j]? = some o → ∃ v, G j v w ∧ ∀ d, o.dst = some d → a.tmps[d]? = some v
  old : ∀ d, (∀ (j : Nat) (o : Oper), ops[j]? = some o → o.dst ≠ some d) → a.tmps[d]? = a0.tmps[d]?
  size : a.tmps.size = a0.tmps.size
  defers : a.defers = a0.defers

structure Inv (ops : Array Oper) (a0 : Act) (G : Nat → Value → World → Prop) (listed : Array Bool) (a : Act) (w : World) : Prop where
  got : ∀ j o, listed.getD j false = true → ops[j]? = some o → ∃ v, G j v w ∧ ∀ d, o.dst = some d → a.tmps[d]? = some v
  old : ∀ d, (∀ (j : Nat) (o : Oper), ops[j]? = some o → o.dst ≠ some d) → a.tmps[d]? = a0.tmps[d]?
  size : a.tmps.size = a0.tmps.size
  defers : a.defers = a0.defers

/-- What an operation has done. -/
def FlowPost (U : World → Prop) (G : Nat → Value → World → Prop) (S : World → World → Prop) (i : Nat) (o : Oper) (a : Act) (w : World) : Act → World → Prop := fun a' w' => ∃ v, a' = a.put o.dst v ∧ U w' ∧ G i v w' ∧ S w w'

def FlowAt (P : Program) (ops : Array Oper) (Q : Exit → Act → World → Prop) (U : World → Prop) (G : Nat → Value → World → Prop) (S : World → World → Prop) (a0 : Act) (p i : Nat) (o : Oper) : Prop :=
  ops[i]? = some o → ∀ a w, U w → Found ops a0 G p a w → wpOp P ops Q i (FlowPost U G S i o a w) a w

theorem countP_lt {α : Type} {p q : α → Bool} : ∀ {l : List α}, (∀ x ∈ l, q x = true → p x = true) → (∃ x ∈ l, p x = true ∧ q x = false) → l.countP q < l.countP p
  | [], _, ⟨x, hx, _⟩ => by simp at hx
  | y :: l, h, ⟨x, hx, hp, hq⟩ => by
    rw [List.countP_cons, List.countP_cons]
    have hle : l.countP q ≤ l.countP p := List.countP_mono_left (fun x hx => h x (List.mem_cons_of_mem _ hx))
    rcases List.mem_cons.1 hx with rfl | hx
    · simp [hp, hq]; omega
    · have := countP_lt (p := p) (q := q) (l := l) (fun x hx => h x (List.mem_cons_of_mem _ hx)) ⟨x, hx, hp, hq⟩
      have := h y (by simp)
      cases hqy : q y <;> cases hpy : p y <;> simp_all <;> omega

theorem flow_any (hS : ∀ i v w w', S w w' → G i v w → G i v w') (hdist : ∀ (i j : Nat) (o o' : Oper) (d : Tmp), ops[i]? = some o → ops[j]? = some o' → o.dst = some d → o'.dst = some d → i = j)
    (hlt : ∀ (i : Nat) (o : Oper) (d : Tmp), ops[i]? = some o → o.dst = some d → d < a0.tmps.size) (hback : ∀ (i : Nat) (o : Oper), ops[i]? = some o → ∀ e ∈ o.after, Region.binds .any e = true → e.on < i)
    (cm : Nat → Nat) (hcm : ∀ i j, has (cm i) j = true → waitsFor ops ops.size i j = true) (H : ∀ (i : Nat) (o : Oper), ops[i]? = some o → FlowAt P ops Q U G S a0 (cm i) i o)
    (hQ : ∀ a w, U w → Inv ops a0 G (Array.replicate ops.size true) a w → Q .normal a w) :
    ∀ (fuel : Nat) (listed : Array Bool) (a : Act) (w : World), listed.size = ops.size → Closed ops listed → (List.range ops.size).countP (fun i => !listed.getD i true) ≤ fuel → U w → Inv ops a0 G listed a w → wpAny P .any ops Q fuel listed a w := by
  have hall : ∀ (listed : Array Bool) (a : Act) (w : World), listed.size = ops.size → Closed ops listed → Region.ready .any ops listed = [] → U w → Inv ops a0 G listed a w → Q .normal a w := by
    intro listed a w hsz hc hr hU hI
    have hl : ∀ i, i < ops.size → listed.getD i false = true := by
      intro i
      induction i using Nat.strongRecOn with
      | ind i ih =>
        intro hi
        cases hb : listed.getD i false with
        | true => rfl
        | false =>
          have hmem : i ∈ Region.ready .any ops listed := by
            refine mem_ready.2 ⟨?_, ops[i], Array.getElem?_eq_getElem hi, fun e he hbd => ?_⟩
            · have : i < listed.size := by omega
              simpa [this] using hb
            · have hlt' := hback i _ (Array.getElem?_eq_getElem hi) e he hbd
              exact ih e.on hlt' (by omega)
          rw [hr] at hmem; cases hmem
    refine hQ a w hU ⟨fun j o _ ho => hI.got j o (hl j ((Array.getElem?_eq_some_iff.1 ho).1)) ho, hI.old, hI.size, hI.defers⟩
  intro fuel
  induction fuel with
  | zero =>
    intro listed a w hsz hc hn hU hI
    have hr : Region.ready .any ops listed = [] := by
      rw [List.eq_nil_iff_forall_not_mem]
      intro i hi
      have h1 := (mem_ready.1 hi)
      obtain ⟨h1, o, ho, _⟩ := h1
      have hi' := (Array.getElem?_eq_some_iff.1 ho).1
      have : 0 < (List.range ops.size).countP (fun i => !listed.getD i true) := List.countP_pos_iff.2 ⟨i, List.mem_range.2 hi', by rw [h1]; rfl⟩
      omega
    exact ⟨hr, hall listed a w hsz hc hr hU hI⟩
  | succ fuel ih =>
    intro listed a w hsz hc hn hU hI
    refine ⟨fun hr => hall listed a w hsz hc hr hU hI, fun i hi => ?_⟩
    obtain ⟨hun, o, ho, hpre⟩ := mem_ready.1 hi
    have hi' := (Array.getElem?_eq_some_iff.1 ho).1
    have hfound : Found ops a0 G (cm i) a w := ⟨fun j oj hj hoj => by
      have h1 := ready_waits hc (hcm i j hj) hi
      exact hI.got j oj h1 hoj, hI.old, hI.size, hI.defers⟩
    refine wpOp_mono (fun a' w' h => ?_) (H i o ho ho a w hU hfound)
    obtain ⟨v, rfl, hU', hG, hSt⟩ := h
    refine ih (listed.setIfInBounds i true) _ w' (by simpa using hsz) (closed_set hc hi) ?_ hU' ⟨?_, ?_, ?_, ?_⟩
    · have : (List.range ops.size).countP (fun k => !(listed.setIfInBounds i true).getD k true) < (List.range ops.size).countP (fun k => !listed.getD k true) := by
        refine countP_lt (fun k _ hk => ?_) ⟨i, List.mem_range.2 hi', by rw [hun]; rfl, ?_⟩
        · by_cases hki : i = k
          · subst hki; rw [hun]; rfl
          · rw [getD_set_ne true hki] at hk; exact hk
        · have : i < listed.size := by omega
          simp [this]
      omega
    · intro j oj hj hoj
      by_cases hji : i = j
      · subst hji
        rw [ho] at hoj; cases hoj
        refine ⟨v, hG, fun d hd => ?_⟩
        have := hlt i o d ho hd
        rw [hd]
        simp [Act.put, hI.size, this]
      · rw [getD_set_ne false hji] at hj
        obtain ⟨v', h1, h2⟩ := hI.got j oj hj hoj
        refine ⟨v', hS j v' w w' hSt h1, fun d hd => ?_⟩
        have h3 := h2 d hd
        cases hod : o.dst with
        | none => simpa [Act.put] using h3
        | some d' =>
          have hne : d' ≠ d := fun e => hji (hdist i j o oj d ho hoj (by rw [hod, e]) hd)
          simp only [Act.put]
          rw [Array.getElem?_setIfInBounds_ne hne]
          exact h3
    · intro d hd
      rw [← hI.old d hd]
      cases hod : o.dst with
      | none => rfl
      | some d' =>
        have hne : d' ≠ d := fun e => hd i o ho (by rw [hod, e])
        simp only [Act.put]
        rw [Array.getElem?_setIfInBounds_ne hne]
    · cases hod : o.dst with
      | none => simpa [Act.put] using hI.size
      | some d' => simpa [Act.put] using hI.size
    · cases hod : o.dst with
      | none => simpa [Act.put] using hI.defers
      | some d' => simpa [Act.put] using hI.defers

/-- The frame with every operation's value in its slot. -/
def fillA (g : Nat → Value) : Nat → List Oper → Act → Act
  | _, [], a => a
  | i, o :: l, a => fillA g (i + 1) l (a.put o.dst (g i))
theorem put_size (a : Act) (d : Option Tmp) (v : Value) : (a.put d v).tmps.size = a.tmps.size := by cases d <;> simp [Act.put]
theorem put_defers (a : Act) (d : Option Tmp) (v : Value) : (a.put d v).defers = a.defers := by cases d <;> simp [Act.put]
theorem put_other (a : Act) {d : Option Tmp} {e : Tmp} (h : d ≠ some e) (v : Value) : (a.put d v).tmps[e]? = a.tmps[e]? := by
  cases d with
  | none => rfl
  | some d =>
    have hne : d ≠ e := fun x => h (by rw [x])
    simp only [Act.put]
    rw [Array.getElem?_setIfInBounds_ne hne]
theorem fillA_size (g : Nat → Value) : ∀ (l : List Oper) (i : Nat) (a : Act), (fillA g i l a).tmps.size = a.tmps.size
  | [], _, _ => rfl
  | o :: l, i, a => by rw [fillA, fillA_size g l, put_size]
theorem fillA_defers (g : Nat → Value) : ∀ (l : List Oper) (i : Nat) (a : Act), (fillA g i l a).defers = a.defers
  | [], _, _ => rfl
  | o :: l, i, a => by rw [fillA, fillA_defers g l, put_defers]
theorem fillA_none (g : Nat → Value) (d : Tmp) : ∀ (l : List Oper) (i : Nat) (a : Act), (∀ o ∈ l, o.dst ≠ some d) → (fillA g i l a).tmps[d]? = a.tmps[d]?
  | [], _, _, _ => rfl
  | o :: l, i, a, h => by rw [fillA, fillA_none g d l _ _ (fun o ho => h o (List.mem_cons_of_mem _ ho)), put_other _ (h o (by simp))]
theorem fillA_some (g : Nat → Value) (d : Tmp) : ∀ (l : List Oper) (k : Nat) (a : Act) (i : Nat) (o : Oper), l[i]? = some o → o.dst = some d → (∀ j o', l[j]? = some o' → o'.dst = some d → j = i) → d < a.tmps.size → (fillA g k l a).tmps[d]? = some (g (k + i))
  | [], _, _, i, o, h, _, _, _ => by simp at h
  | o0 :: l, k, a, 0, o, h, hd, hu, hlt => by
    simp at h; subst h
    rw [fillA, fillA_none g d l _ _ (fun o' ho' hd' => by
      obtain ⟨j, hj⟩ := List.getElem?_of_mem ho'
      have := hu (j + 1) o' (by simpa using hj) hd'
      omega), hd]
    simp [Act.put, hlt]
  | o0 :: l, k, a, i + 1, o, h, hd, hu, hlt => by
    rw [fillA, fillA_some g d l (k + 1) _ i o (by simpa using h) hd (fun j o' hj hd' => by have := hu (j + 1) o' (by simpa using hj) hd'; omega) (by rw [put_size]; exact hlt)]
    congr 2; omega

def dstOk (n : Nat) : List (Option Tmp) → Nat → Bool
  | [], _ => true
  | none :: l, m => dstOk n l m
  | some d :: l, m => !has m d && Nat.blt d n && dstOk n l (put1 m d)
theorem dstOk_spec (n : Nat) : ∀ (l : List (Option Tmp)) (m : Nat), dstOk n l m = true → ∀ (i : Nat) (d : Tmp), l[i]? = some (some d) → d < n ∧ has m d = false ∧ ∀ j : Nat, l[j]? = some (some d) → j = i
  | [], _, _, i, d, h => by simp at h
  | none :: l, m, hok, 0, d, h => by simp at h
  | none :: l, m, hok, i + 1, d, h => by
    rw [dstOk] at hok
    obtain ⟨h1, h2, h3⟩ := dstOk_spec n l m hok i d (by simpa using h)
    refine ⟨h1, h2, fun j hj => ?_⟩
    cases j with
    | zero => simp at hj
    | succ j => have := h3 j (by simpa using hj); omega
  | some d0 :: l, m, hok, 0, d, h => by
    rw [dstOk] at hok
    simp only [Bool.and_eq_true, Bool.not_eq_true'] at hok
    simp at h; subst h
    refine ⟨?_, hok.1.1, fun j hj => ?_⟩
    · have := hok.1.2; unfold Nat.blt at this; exact Nat.le_of_ble_eq_true this
    · cases j with
      | zero => rfl
      | succ j =>
        have := (dstOk_spec n l _ hok.2 j d0 (by simpa using hj)).2.1
        rw [has_put1] at this; simp at this
  | some d0 :: l, m, hok, i + 1, d, h => by
    rw [dstOk] at hok
    simp only [Bool.and_eq_true, Bool.not_eq_true'] at hok
    obtain ⟨h1, h2, h3⟩ := dstOk_spec n l _ hok.2 i d (by simpa using h)
    rw [has_put1, Bool.or_eq_false_iff] at h2
    refine ⟨h1, h2.1, fun j hj => ?_⟩
    cases j with
    | zero => simp at hj; subst hj; simp at h2
    | succ j => have := h3 j (by simpa using hj); omega
def backOk : List Nat → Nat → Bool
  | [], _ => true
  | p :: l, i => Nat.blt p (Nat.pow 2 i) && backOk l (i + 1)
theorem backOk_spec : ∀ (l : List Nat) (k : Nat), backOk l k = true → ∀ i p, l[i]? = some p → ∀ j, has p j = true → j < k + i
  | [], _, _, i, p, h => by simp at h
  | p0 :: l, k, hok, 0, p, h => by
    rw [backOk, Bool.and_eq_true] at hok
    simp at h; subst h
    intro j hj
    have h1 : p0 < 2 ^ k := by have := hok.1; unfold Nat.blt at this; have := Nat.le_of_ble_eq_true this; exact this
    rcases Nat.lt_or_ge j (k + 0) with h2 | h2
    · exact h2
    · have : p0.testBit j = false := Nat.testBit_lt_two_pow (Nat.lt_of_lt_of_le h1 (Nat.pow_le_pow_right (by decide) h2))
      rw [has_eq, this] at hj; cases hj
  | p0 :: l, k, hok, i + 1, p, h => by
    rw [backOk, Bool.and_eq_true] at hok
    intro j hj
    have := backOk_spec l (k + 1) hok.2 i p (by simpa using h) j hj
    omega

/-- Each operation of a list, from the i-th on. -/
def Each (H : Nat → Oper → Prop) : Nat → List Oper → Prop
  | _, [] => True
  | i, o :: l => H i o ∧ Each H (i + 1) l
theorem each_at {H : Nat → Oper → Prop} : ∀ (l : List Oper) (k : Nat), Each H k l → ∀ i o, l[i]? = some o → H (k + i) o
  | [], _, _, i, o, h => by simp at h
  | o0 :: l, k, hE, 0, o, h => by simp at h; subst h; exact hE.1
  | o0 :: l, k, hE, i + 1, o, h => by
    have := each_at l (k + 1) hE.2 i o (by simpa using h)
    rw [show k + (i + 1) = k + 1 + i from by omega]; exact this

/-- THE DOOR. -/
theorem region_flow {id : Nat} {w : World} (pm cm : List Nat) (U : World → Prop) (G : Nat → Value → World → Prop) (S : World → World → Prop) (n : Nat) (hm : P.follows .mixedOrders = true)
    (hn : a0.tmps.size = n) (hcl : cm.length = pm.length) (hp : ops.toList.map pmOf = pm) (hc : rowOk pm [] cm 0 = true) (hb : backOk pm 0 = true) (hd : dstOk n (ops.toList.map (·.dst)) 0 = true)
    (hS : ∀ i v w w', S w w' → G i v w → G i v w') (hU : U w.drew)
    (H : Each (fun i o => FlowAt P ops Q U G S a0 (cm.getD i 0) i o) 0 ops.toList)
    (hQ : ∀ (g : Nat → Value) (w' : World), U w' → (∀ i, i < ops.size → G i (g i) w') → Q .normal (fillA g 0 ops.toList a0) w') : (Code.region id ops true).wp P Q a0 w := by
  have hdst : ∀ (i : Nat) (o : Oper) (d : Tmp), ops[i]? = some o → o.dst = some d → (ops.toList.map (·.dst))[i]? = some (some d) := fun i o d ho hod => by
    rw [List.getElem?_map, Array.getElem?_toList, ho, Option.map_some, hod]
  have hdist : ∀ (i j : Nat) (o o' : Oper) (d : Tmp), ops[i]? = some o → ops[j]? = some o' → o.dst = some d → o'.dst = some d → i = j := fun i j o o' d h1 h2 h3 h4 =>
    (dstOk_spec n _ 0 hd j d (hdst j o' d h2 h4)).2.2 i (hdst i o d h1 h3)
  have hlt : ∀ (i : Nat) (o : Oper) (d : Tmp), ops[i]? = some o → o.dst = some d → d < a0.tmps.size := fun i o d h1 h2 => by
    rw [hn]; exact (dstOk_spec n _ 0 hd i d (hdst i o d h1 h2)).1
  have hback : ∀ (i : Nat) (o : Oper), ops[i]? = some o → ∀ e ∈ o.after, Region.binds .any e = true → e.on < i := fun i o ho e he hbd => by
    have h1 : pm[i]? = some (pmOf o) := by rw [← hp, List.getElem?_map, Array.getElem?_toList, ho]; rfl
    have h2 : has (pmOf o) e.on = true := by
      unfold pmOf
      rw [has_maskBy, Bool.or_eq_true, List.any_eq_true]
      exact .inr ⟨e, Array.mem_toList_iff.2 he, by simp [hbd]⟩
    have := backOk_spec pm 0 hb i _ h1 e.on h2
    omega
  have hcm : ∀ i j, has (cm.getD i 0) j = true → waitsFor ops ops.size i j = true := fun i j hj => by
    rcases Nat.lt_or_ge i ops.size with hi | hi
    · exact waits_mono _ ops.size i j (by omega) (waits_of pm cm hp hc i j hi hj)
    · have h1 : cm.length ≤ i := by rw [hcl, ← hp]; simpa using hi
      rw [List.getD_eq_getElem?_getD, List.getElem?_eq_none h1, Option.getD_none, has_zero] at hj
      cases hj
  refine wp_region_any hm (flow_any (G := G) (S := S) (a0 := a0) hS hdist hlt hback (fun i => cm.getD i 0) hcm ?_ ?_ ops.size _ a0 w.drew (by simp) ?_ ?_ hU ?_)
  · intro i o ho
    have := each_at ops.toList 0 H i o (by rw [Array.getElem?_toList]; exact ho)
    rw [Nat.zero_add] at this
    exact this
  · intro a w' hU' hI
    have hg : ∀ i, ∃ v, i < ops.size → G i v w' ∧ ∀ o d, ops[i]? = some o → o.dst = some d → a.tmps[d]? = some v := by
      intro i
      rcases Nat.lt_or_ge i ops.size with hi | hi
      · obtain ⟨v, h1, h2⟩ := hI.got i ops[i] (by simp [hi]) (Array.getElem?_eq_getElem hi)
        exact ⟨v, fun _ => ⟨h1, fun o d ho hod => by rw [Array.getElem?_eq_getElem hi] at ho; cases ho; exact h2 d hod⟩⟩
      · exact ⟨undef, fun h => by omega⟩
    have hgs := fun i => Classical.choose_spec (hg i)
    have he : a = fillA (fun i => Classical.choose (hg i)) 0 ops.toList a0 := by
      have h1 : a.tmps = (fillA (fun i => Classical.choose (hg i)) 0 ops.toList a0).tmps := by
        apply Array.ext_getElem?
        intro d
        by_cases hex : ∃ (i : Nat) (o : Oper), ops[i]? = some o ∧ o.dst = some d
        · obtain ⟨i, o, ho, hod⟩ := hex
          have hi := (Array.getElem?_eq_some_iff.1 ho).1
          rw [fillA_some _ d ops.toList 0 a0 i o (by rw [Array.getElem?_toList]; exact ho) hod (fun j o' hj hd' => hdist j i o' o d (by rw [Array.getElem?_toList] at hj; exact hj) ho hd' hod) (hlt i o d ho hod), Nat.zero_add]
          exact (hgs i hi).2 o d ho hod
        · have hno : ∀ (j : Nat) (o : Oper), ops[j]? = some o → o.dst ≠ some d := fun j o ho hod => hex ⟨j, o, ho, hod⟩
          rw [fillA_none _ d ops.toList 0 a0 (fun o ho hod => by
            obtain ⟨j, hj⟩ := List.getElem?_of_mem ho
            rw [Array.getElem?_toList] at hj
            exact hno j o hj hod)]
          exact hI.old d hno
      have h2 : a.defers = (fillA (fun i => Classical.choose (hg i)) 0 ops.toList a0).defers := by rw [fillA_defers]; exact hI.defers
      cases a; cases hfa : fillA (fun i => Classical.choose (hg i)) 0 ops.toList a0
      rw [hfa] at h1 h2
      simp only at h1 h2
      rw [h1, h2]
    rw [he]
    exact hQ _ w' hU' (fun i hi => (hgs i hi).1)
  · intro j o hj
    rcases Nat.lt_or_ge j ops.size with h' | h' <;> simp [h'] at hj
  · have := List.countP_le_length (p := fun i => !(Array.replicate ops.size false).getD i true) (l := List.range ops.size)
    simpa using this
  · exact ⟨fun j o hj _ => by rcases Nat.lt_or_ge j ops.size with h' | h' <;> simp [h'] at hj, fun d _ => rfl, rfl, rfl⟩
end
/-! ### one operation -/
/-- What is asked of a list of properties. -/
def gl (L : List (Value → World → Prop)) (i : Nat) : Value → World → Prop := L.getD i (fun _ _ => True)
theorem gl_stable {S : World → World → Prop} : ∀ (L : List (Value → World → Prop)), (∀ g ∈ L, ∀ v w w', S w w' → g v w → g v w') → ∀ i v w w', S w w' → gl L i v w → gl L i v w'
  | [], _, i, v, w, w', _, _ => by simp [gl]
  | g :: L, h, 0, v, w, w', hs, hg => h g (by simp) v w w' hs hg
  | g :: L, h, i + 1, v, w, w', hs, hg => gl_stable L (fun g hm => h g (List.mem_cons_of_mem _ hm)) i v w w' hs hg
def noDst (ops : Array Oper) (d : Tmp) : Bool := ops.toList.all fun o => match o.dst with | some e => !Nat.beq e d | none => true
theorem noDst_spec {ops : Array Oper} {d : Tmp} (h : noDst ops d = true) : ∀ (j : Nat) (o : Oper), ops[j]? = some o → o.dst ≠ some d := fun j o ho hd => by
  have := List.all_eq_true.1 h o (Array.mem_toList_iff.2 (Array.mem_of_getElem? ho))
  rw [hd] at this
  simp at this
section
variable {P : Program} {ops : Array Oper} {Q : Exit → Act → World → Prop} {U : World → Prop} {G : Nat → Value → World → Prop} {S : World → World → Prop} {a0 a : Act} {w : World} {p i : Nat} {o : Oper}

theorem Found.at_ (h : Found ops a0 G p a w) (j : Nat) {o : Oper} {d : Tmp} (hj : has p j = true) (ho : ops[j]? = some o) (hd : o.dst = some d) : ∃ v, G j v w ∧ a.eval (.tmp d) = v := by
  obtain ⟨v, h1, h2⟩ := h.got j o hj ho
  exact ⟨v, h1, by have := h2 d hd; simp [Act.eval, Array.getD_eq_getD_getElem?, this]⟩
theorem Found.out (h : Found ops a0 G p a w) (d : Tmp) (hd : noDst ops d = true) : a.eval (.tmp d) = a0.eval (.tmp d) := by
  have := h.old d (noDst_spec hd)
  simp [Act.eval, Array.getD_eq_getD_getElem?, this]

theorem put_inj {st : Act} {dst : Option Tmp} {v v' : Value} (hlt : ∀ d, dst = some d → d < st.tmps.size) (h : st.put dst v = st.put dst v') (a : Act) : a.put dst v = a.put dst v' := by
  cases dst with
  | none => rfl
  | some d =>
    have h1 := congrArg (fun x : Act => x.tmps[d]?) h
    have h2 := hlt d rfl
    simp [Act.put, h2] at h1
    rw [h1]

/-- An operation that acts, walked at a frame of one's own that has the same operands. -/
theorem flow_at (hi : ops[i]? = some o) (hw : Region.wanted o (yielded ops a.tmps) = true) (hs : ∀ cs b, o.op ≠ .select cs b) (st : Act) (hlt : ∀ d, o.dst = some d → d < st.tmps.size) (heq : ∀ x ∈ o.op.operands, a.eval x = st.eval x)
    (h : ∀ K : Act → World → Prop, Shut (∀ v w' a', a' = st.put o.dst v → U w' → G i v w' → S w w' → K a' w') → o.wp P st w K (fun _ _ _ => False)) :
    wpOp P ops Q i (FlowPost U G S i o a w) a w := by
  have h1 := h (fun a' w' => st.defers = a'.defers ∧ ∀ v, a' = st.put o.dst v → ∃ v', a.put o.dst v = a.put o.dst v' ∧ U w' ∧ G i v' w' ∧ S w w') (fun v w' a' ha hU hG hS => ⟨by rw [ha]; cases o.dst <;> rfl, fun v2 h2 => ⟨v, (put_inj hlt (ha.symm.trans h2) a).symm, hU, hG, hS⟩⟩)
  unfold FlowPost wpOp
  simp only [hi, hw, if_true]
  refine .inl ?_
  unfold Oper.wp at *
  rw [execOp_congr o hs heq]
  generalize (execOp st.eval o).run P w = r at *
  cases r with
  | ok n w' =>
    cases n <;> simp only [Oper.upon] at h1 ⊢
    case value v => obtain ⟨v', h2, h3⟩ := h1.2 v rfl; exact ⟨v', h2, h3⟩
    case skip => obtain ⟨v', h2, h3⟩ := h1.2 undef rfl; exact ⟨v', h2, h3⟩
    case defer d =>
      have h2 := congrArg List.length h1.1
      cases hd : o.dst <;> simp [Act.put, hd] at h2
    case enter f args =>
      refine Calls.mono h1 fun e w'' he => ?_
      cases e with
      | returned v => obtain ⟨v', h2, h3⟩ := he.2 v rfl; exact ⟨v', h2, h3⟩
      | panicked c => exact he.elim
      | outgrown => obtain ⟨_, _, h⟩ := he; exact h.elim
    case row row args => exact Rows.mono h1 fun v w'' he => by obtain ⟨v', h2, h3⟩ := he.2 v rfl; exact ⟨v', h2, h3⟩
  | halt x w' => cases x <;> simp only [Oper.upon] at h1

/-- One that only looks. -/
theorem flow_see (hi : ops[i]? = some o) (hw : Region.wanted o (yielded ops a.tmps) = true) (hs : ∀ cs b, o.op ≠ .select cs b) (st : Act) (heq : ∀ x ∈ o.op.operands, a.eval x = st.eval x) {v : Value}
    (h : (execOp st.eval o).run P w = .ok (.value v) w) (hU : U w) (hG : G i v w) (hS : S w w) :
    wpOp P ops Q i (FlowPost U G S i o a w) a w := by
  unfold FlowPost wpOp
  simp only [hi, hw, if_true]
  refine .inl ?_
  unfold Oper.wp
  rw [execOp_congr o hs heq, h]
  exact ⟨v, rfl, hU, hG, hS⟩
/-- One that isn't wanted. -/
theorem flow_not (hi : ops[i]? = some o) (hw : Region.wanted o (yielded ops a.tmps) = false) (hU : U w) (hG : G i undef w) (hS : S w w) :
    wpOp P ops Q i (FlowPost U G S i o a w) a w := by
  unfold FlowPost wpOp
  simp only [hi, hw]
  exact ⟨undef, rfl, hU, hG, hS⟩
end
end Go.Proofs.Ytandenkoejbloaa
