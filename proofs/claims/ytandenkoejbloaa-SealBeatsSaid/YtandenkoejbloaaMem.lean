/- What a call leaves of the world: 'Fr S w w'': beside the blocks of S, and new ones, all is as it was. Plain: no program in sight. -/
import Derived.WalkKit
import Derived.WalkSpells
import Derived.WalkLawsBesides
import Derived.Deep.AppendSrc
namespace Go.Proofs.Ytandenkoejbloaa
open Go Go.RowKit

structure Fr (S : Nat → Prop) (w w' : World) : Prop where
  os : w'.os = w.os
  tape : w'.tape = w.tape
  output : w'.output = w.output
  size : w.heap.size ≤ w'.heap.size
  block : ∀ k, k < w.heap.size → ¬ S k → w'.heap[k]? = w.heap[k]?

/-- No block of the old ones. -/
def none_ : Nat → Prop := fun _ => False

section
variable {S T : Nat → Prop} {a b c w w' : World}

theorem Fr.refl (S : Nat → Prop) (w : World) : Fr S w w := ⟨rfl, rfl, rfl, Nat.le_refl _, fun _ _ _ => rfl⟩

theorem Fr.trans (h : Fr S a b) (k : Fr S b c) : Fr S a c :=
  ⟨k.os.trans h.os, k.tape.trans h.tape, k.output.trans h.output, Nat.le_trans h.size k.size,
    fun i hi hn => (k.block i (Nat.lt_of_lt_of_le hi h.size) hn).trans (h.block i hi hn)⟩

/-- Two steps, the second one's blocks old ones of S or new. -/
theorem Fr.step (h : Fr S a b) (k : Fr T b c) (hT : ∀ i, i < a.heap.size → T i → S i) : Fr S a c :=
  ⟨k.os.trans h.os, k.tape.trans h.tape, k.output.trans h.output, Nat.le_trans h.size k.size,
    fun i hi hn => (k.block i (Nat.lt_of_lt_of_le hi h.size) (fun ht => hn (hT i hi ht))).trans (h.block i hi hn)⟩

theorem Fr.mono (h : Fr S a b) (hT : ∀ i, i < a.heap.size → S i → T i) : Fr T a b :=
  ⟨h.os, h.tape, h.output, h.size, fun i hi hn => h.block i hi (fun hs => hn (hT i hi hs))⟩

theorem Fr.drew (h : Fr S a w) : Fr S a w.drew := ⟨h.os, h.tape, h.output, h.size, h.block⟩

theorem Fr.alloc (h : Fr S a w) (o : Obj) : Fr S a (w.alloc o) :=
  h.trans ⟨rfl, rfl, rfl, by simp, fun k hk _ => Below.heap_alloc _ _ _ hk⟩

theorem Fr.setCell (h : Fr S a w) {p : Addr} (hp : p.block < a.heap.size → S p.block) (v : Value) : Fr S a (w.setCell p v) :=
  ⟨h.os, h.tape, h.output, by simpa [World.setCell] using h.size, fun k hk hn => (Below.heap_setCell _ _ _ _ (fun e => hn (by subst e; exact hp hk))).trans (h.block k hk hn)⟩

theorem Fr.setCells (h : Fr S a w) {g o : Nat} (hg : g < a.heap.size → S g) (vs : List Value) : Fr S a (w.setCells g o vs) := by
  have hkb := World.keptBut_setCells g (may := fun _ => True) vs o w (fun _ _ => trivial)
  have ht : ∀ (vs : List Value) (o : Nat) (w : World), (w.setCells g o vs).tape = w.tape := by
    intro vs; induction vs with
    | nil => intro o w; rfl
    | cons v vs ih => intro o w; simp only [World.setCells]; rw [ih]; rfl
  have hz : ∀ (vs : List Value) (o : Nat) (w : World), (w.setCells g o vs).heap.size = w.heap.size := by
    intro vs; induction vs with
    | nil => intro o w; rfl
    | cons v vs ih => intro o w; simp only [World.setCells]; rw [ih]; simp
  have hb : ∀ (vs : List Value) (o : Nat) (w : World) (k : Nat), k ≠ g → (w.setCells g o vs).heap[k]? = w.heap[k]? := by
    intro vs; induction vs with
    | nil => intro o w k _; rfl
    | cons v vs ih => intro o w k hk; simp only [World.setCells]; rw [ih _ _ _ hk]; exact Below.heap_setCell _ _ _ _ hk
  exact ⟨hkb.1.trans h.os, (ht vs o w).trans h.tape, hkb.2.1.trans h.output, by rw [hz]; exact h.size,
    fun k hk hn => (hb vs o w k (fun e => hn (by subst e; exact hg hk))).trans (h.block k hk hn)⟩

theorem Fr.cell (h : Fr S w w') {p : Addr} (hp : p.block < w.heap.size) (hn : ¬ S p.block) : w'.cell? p = w.cell? p := World.cell?_of_block (h.block p.block hp hn)
theorem Fr.frozen (h : Fr S w w') {p : Addr} (hp : p.block < w.heap.size) (hn : ¬ S p.block) : w'.frozen? p = w.frozen? p := World.frozen?_of_block (h.block p.block hp hn)

theorem Fr.of_grown {row : Option Nat} (hg : w.grownBy w' row) : Fr (fun k => row = some k) w w' :=
  ⟨hg.os, hg.tape, hg.output, hg.size, fun k hk hn => hg.block k hk (fun e => hn e.symm)⟩

theorem Fr.below (h : Fr none_ w w') : Below w.heap.size w w' := ⟨h.os, h.tape, h.output, h.size, fun k hk => h.block k hk (fun f => f)⟩
theorem Fr.of_below (h : Below w.heap.size w w') : Fr none_ w w' := ⟨h.os, h.tape, h.output, h.size, fun k hk _ => h.block k hk⟩
theorem Fr.below_lt {B : Nat} (h : Fr S w w') (hB : B ≤ w.heap.size) (hS : ∀ k, S k → B ≤ k) : Below B w w' :=
  ⟨h.os, h.tape, h.output, h.size, fun k hk => h.block k (by omega) (fun s => by have := hS k s; omega)⟩
end

/-- A block known whole. -/
def Blk (w : World) (b : Nat) (e : TypeId) (cs : List Value) : Prop := w.heap[b]? = some (.cells cs.toArray e (0, 0))

section
variable {S : Nat → Prop} {w w' : World} {b : Nat} {e : TypeId} {cs : List Value}

theorem Blk.lt (h : Blk w b e cs) : b < w.heap.size := (Array.getElem?_eq_some_iff.1 h).1
theorem Blk.cell (h : Blk w b e cs) (i : Nat) : w.cell? ⟨b, i, none⟩ = cs[i]? := by
  unfold Blk at h; simp [World.cell?, h]
theorem Blk.cell_of (h : Blk w b e cs) {i : Nat} {v : Value} (hv : cs[i]? = some v) : w.cell? ⟨b, i, none⟩ = some v := (h.cell i).trans hv
theorem Blk.free (h : Blk w b e cs) (i : Nat) : w.frozen? ⟨b, i, none⟩ = false := by
  unfold Blk at h; simp [World.frozen?, h]
theorem Blk.kept (h : Blk w b e cs) (hf : Fr S w w') (hn : ¬ S b) : Blk w' b e cs := (hf.block b h.lt hn).trans h
theorem Blk.drew (h : Blk w b e cs) : Blk w.drew b e cs := h
theorem Blk.alloc (h : Blk w b e cs) (o : Obj) : Blk (w.alloc o) b e cs := (Below.heap_alloc _ _ _ h.lt).trans h
theorem Blk.setCell (h : Blk w b e cs) (i : Nat) (v : Value) : Blk (w.setCell ⟨b, i, none⟩ v) b e (cs.set i v) := by
  unfold Blk at *
  have hb := (Array.getElem?_eq_some_iff.1 h)
  simp only [World.setCell, Array.getElem?_modify, if_true, h, Option.map_some]
  simp
theorem Blk.setCell_other (h : Blk w b e cs) {p : Addr} (hp : p.block ≠ b) (v : Value) : Blk (w.setCell p v) b e cs :=
  (Below.heap_setCell _ _ _ _ (Ne.symm hp)).trans h
theorem Blk.new (w : World) (cs : Array Value) (e : TypeId) : Blk (w.alloc (.cells cs e)) w.heap.size e cs.toList := by
  unfold Blk; rw [heap_alloc_new]
end

/-- The slice value v reads as the cells vs (one cell an element). -/
def Rd (w : World) (v : Value) (vs : List Value) : Prop :=
  ∃ ao cap, v = .slice ao vs.length cap ∧ vs.length ≤ cap ∧ cap ≤ maxLen ∧ ∀ j x, vs[j]? = some x → ∃ b o, ao = some ⟨b, o, none⟩ ∧ b < w.heap.size ∧ w.cell? ⟨b, o + j, none⟩ = some x

/-- The slice value v owns what it reads: nil, or a run within a block of the call's own (from 'base' on). -/
def Thawed (n : Nat) (fz : Nat × Nat) : Prop := ∀ j, j < n → (decide (fz.1 ≤ j) && decide (j < fz.2)) = false
theorem thawed_0 (n : Nat) : Thawed n (0, 0) := fun j _ => by simp
def Own (w : World) (base : Nat) (e : TypeId) (v : Value) (vs : List Value) : Prop :=
  (v = .slice none 0 0 ∧ vs = []) ∨
  ∃ g off cap cur fz, v = .slice (some ⟨g, off, none⟩) vs.length cap ∧ base ≤ g ∧ w.heap[g]? = some (.cells cur e fz) ∧ Thawed cur.size fz ∧ vs.length ≤ cap ∧ cap ≤ maxLen ∧ off + cap ≤ cur.size ∧ (cur.toList.drop off).take vs.length = vs

section
variable {S : Nat → Prop} {w w' : World} {base : Nat} {e : TypeId} {v : Value} {vs : List Value}

theorem Own.nil (w : World) (base : Nat) (e : TypeId) : Own w base e (.slice none 0 0) [] := .inl ⟨rfl, rfl⟩
theorem Own.mono {base' : Nat} (h : Own w base e v vs) (hb : base' ≤ base) : Own w base' e v vs := by
  rcases h with h | ⟨g, off, cap, cur, fz, h1, h2, h3⟩
  · exact .inl h
  · exact .inr ⟨g, off, cap, cur, fz, h1, by omega, h3⟩
/-- Its block, and that it is there. -/
theorem Own.blk (h : Own w base e v vs) : ∀ k, v.ownBlock = some k → base ≤ k ∧ k < w.heap.size := by
  intro k hk
  rcases h with ⟨rfl, _⟩ | ⟨g, off, cap, cur, fz, rfl, hb, hg, _⟩
  · simp [Value.ownBlock] at hk
  · simp [Value.ownBlock] at hk; subst hk; exact ⟨hb, (Array.getElem?_eq_some_iff.1 hg).1⟩
theorem Own.kept (h : Own w base e v vs) (hf : Fr S w w') (hn : ∀ k, v.ownBlock = some k → ¬ S k) : Own w' base e v vs := by
  rcases h with h | ⟨g, off, cap, cur, fz, rfl, hb, hg, r⟩
  · exact .inl h
  · exact .inr ⟨g, off, cap, cur, fz, rfl, hb, by rw [hf.block g (Array.getElem?_eq_some_iff.1 hg).1 (hn g rfl)]; exact hg, r⟩
theorem Own.alloc (h : Own w base e v vs) (o : Obj) : Own (w.alloc o) base e v vs := h.kept (Fr.alloc (Fr.refl none_ w) o) (fun _ _ f => f)
theorem Own.drew (h : Own w base e v vs) : Own w.drew base e v vs := h
theorem Own.setCell (h : Own w base e v vs) {p : Addr} (hp : v.ownBlock ≠ some p.block) (u : Value) : Own (w.setCell p u) base e v vs :=
  h.kept (S := fun k => k = p.block) (Fr.setCell (Fr.refl (fun k => k = p.block) w) (fun _ => rfl) u) (fun k hk e => hp (by subst e; exact hk))
theorem Own.rd (h : Own w base e v vs) : Rd w v vs := by
  rcases h with ⟨rfl, rfl⟩ | ⟨g, off, cap, cur, fz, rfl, hb, hg, hz, h1, h2, h3, h4⟩
  · exact ⟨none, 0, rfl, by simp, by simp, fun j x h => by simp at h⟩
  · refine ⟨_, _, rfl, h1, h2, fun j x hj => ⟨g, off, rfl, (Array.getElem?_eq_some_iff.1 hg).1, ?_⟩⟩
    have hjl : j < vs.length := (List.getElem?_eq_some_iff.1 hj).1
    rw [← h4] at hj
    rw [List.getElem?_take_of_lt hjl, List.getElem?_drop] at hj
    simp only [World.cell?, hg]
    simpa using hj
/-- A step that wrote what is owned from 'base' on leaves all below. -/
theorem Own.frame {a : World} (h : Own w base e v vs) (hf : Fr none_ a w) (hb : a.heap.size ≤ base) {c w1 : World} (hc : Fr none_ w c) (hk : Fr (fun k => v.ownBlock = some k) c w1) : Fr none_ a w1 :=
  (hf.trans hc).step hk (fun i hi ht => by have := (h.blk i ht).1; exact absurd hi (by omega))
theorem Own.shape (h : Own w base e v vs) : ∃ ao cap, v = .slice ao vs.length cap ∧ vs.length ≤ cap ∧ cap ≤ maxLen := by
  obtain ⟨ao, cap, h1, h2, h3, _⟩ := h.rd
  exact ⟨ao, cap, h1, h2, h3⟩
/-- Of a slice that is not empty: where it stands. -/
theorem Own.at (h : Own w base e v vs) (hl : 0 < vs.length) : ∃ g off cap, v = .slice (some ⟨g, off, none⟩) vs.length cap ∧ base ≤ g ∧ g < w.heap.size ∧ vs.length ≤ cap ∧ cap ≤ maxLen ∧ ∀ j x, vs[j]? = some x → w.cell? ⟨g, off + j, none⟩ = some x := by
  have hr := h.rd
  rcases h with ⟨_, rfl⟩ | ⟨g, off, cap, cur, fz, rfl, hb, hg, hz, h1, h2, h3, h4⟩
  · simp at hl
  · obtain ⟨ao, cap', e1, _, _, hc⟩ := hr
    simp only [Value.slice.injEq] at e1
    obtain ⟨rfl, _, rfl⟩ := e1
    refine ⟨g, off, cap, rfl, hb, (Array.getElem?_eq_some_iff.1 hg).1, h1, h2, fun j x hj => ?_⟩
    obtain ⟨b, o, e2, _, h5⟩ := hc j x hj
    cases e2; exact h5
/-- Cut at its head. -/
theorem Own.drop (h : Own w base e v vs) (k : Nat) (hk : k < vs.length) : ∀ g off cap, v = .slice (some ⟨g, off, none⟩) vs.length cap → Own w base e (.slice (some ⟨g, off + k, none⟩) (vs.drop k).length (cap - k)) (vs.drop k) := by
  intro g off cap hv
  rcases h with ⟨_, rfl⟩ | ⟨g', off', cap', cur, fz, hv', hb, hg, hz, h1, h2, h3, h4⟩
  · simp at hk
  · rw [hv] at hv'
    simp only [Value.slice.injEq, Option.some.injEq, Addr.mk.injEq, and_true, true_and] at hv'
    obtain ⟨⟨rfl, rfl⟩, rfl⟩ := hv'
    refine .inr ⟨g, off + k, cap - k, cur, fz, rfl, hb, hg, hz, by simp; omega, by omega, by omega, ?_⟩
    rw [← List.drop_drop, List.length_drop, ← List.drop_take, h4]

theorem Rd.kept (h : Rd w v vs) (hf : Fr S w w') (hn : ∀ k, v.ownBlock = some k → k < w.heap.size → vs ≠ [] → ¬ S k) : Rd w' v vs := by
  obtain ⟨ao, cap, rfl, h1, h2, h3⟩ := h
  refine ⟨ao, cap, rfl, h1, h2, fun j x hj => ?_⟩
  obtain ⟨b, o, rfl, hb, hc⟩ := h3 j x hj
  exact ⟨b, o, rfl, Nat.lt_of_lt_of_le hb hf.size, (hf.cell hb (hn b rfl hb (fun e => by rw [e] at hj; simp at hj))).trans hc⟩
/-- Of a slice that is not empty: its block is there. -/
theorem Rd.lt (h : Rd w v vs) (hne : vs ≠ []) : ∀ k, v.ownBlock = some k → k < w.heap.size := by
  obtain ⟨ao, cap, rfl, h1, h2, h3⟩ := h
  intro k hk
  cases vs with
  | nil => exact absurd rfl hne
  | cons x r =>
    obtain ⟨b, o, rfl, hb, _⟩ := h3 0 x rfl
    simp [Value.ownBlock] at hk; subst hk; exact hb
theorem Rd.alloc (h : Rd w v vs) (o : Obj) : Rd (w.alloc o) v vs := h.kept (Fr.alloc (Fr.refl none_ w) o) (fun _ _ _ _ f => f)
theorem Rd.drew (h : Rd w v vs) : Rd w.drew v vs := h.kept (Fr.refl none_ w).drew (fun _ _ _ _ f => f)
theorem Rd.nil_ (w : World) : Rd w (.slice none 0 0) [] := (Own.nil w 0 0).rd
end
end Go.Proofs.Ytandenkoejbloaa
