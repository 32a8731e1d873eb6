/- Generations in cells, two cells each; what a ring answers: plain laws. -/
import Derived.Test.YtandenkoejbloaaOpenM
namespace Go.Proofs.Ytandenkoejbloaa
open Go Go.RowKit
abbrev Gs := List (Int × Int)
def flat : Gs → List Value
  | [] => []
  | g :: r => .int .i64 g.1 :: .int .i64 g.2 :: flat r
theorem flat_length : ∀ g : Gs, (flat g).length = 2 * g.length
  | [] => rfl
  | _ :: r => by simp only [flat, List.length_cons, flat_length r]; omega
theorem flat_at0 : ∀ (g : Gs) (i : Nat), (flat g)[2 * i]? = g[i]?.map fun p => .int .i64 p.1
  | [], i => by simp [flat]
  | a :: r, 0 => rfl
  | a :: r, i + 1 => by
    rw [show 2 * (i + 1) = 2 * i + 1 + 1 from by omega]
    simp only [flat, List.getElem?_cons_succ, flat_at0 r i]
theorem flat_at1 : ∀ (g : Gs) (i : Nat), (flat g)[2 * i + 1]? = g[i]?.map fun p => .int .i64 p.2
  | [], i => by simp [flat]
  | a :: r, 0 => rfl
  | a :: r, i + 1 => by
    rw [show 2 * (i + 1) + 1 = 2 * i + 1 + 1 + 1 from by omega]
    simp only [flat, List.getElem?_cons_succ, flat_at1 r i]
theorem flat_set : ∀ (g : Gs) (i : Nat) (x y : Int), ((flat g).set (2 * i) (.int .i64 x)).set (2 * i + 1) (.int .i64 y) = flat (g.set i (x, y))
  | [], i, x, y => by simp [flat]
  | a :: r, 0, x, y => rfl
  | a :: r, i + 1, x, y => by
    rw [show 2 * (i + 1) + 1 = 2 * i + 1 + 1 + 1 from by omega, show 2 * (i + 1) = 2 * i + 1 + 1 from by omega]
    simp only [flat, List.set_cons_succ, flat_set r i x y]
theorem flat_zeros : ∀ n : Nat, flat (List.replicate n (0, 0)) = (List.range (n * 2)).map fun i => #[Value.int .i64 0, Value.int .i64 0][i % 2]!
  | 0 => rfl
  | n + 1 => by
    rw [List.replicate_succ', show (n + 1) * 2 = n * 2 + 1 + 1 from by omega, List.range_succ, List.range_succ, List.map_append, List.map_append, ← flat_zeros n]
    have h : ∀ g h : Gs, flat (g ++ h) = flat g ++ flat h := by
      intro g h; induction g with
      | nil => rfl
      | cons a r ih => simp [flat, ih]
    rw [h]
    have e0 : n * 2 % 2 = 0 := by omega
    have e1 : (n * 2 + 1) % 2 = 1 := by omega
    simp [flat, e0, e1]
/-- A collector's, if there is one. -/
def gat (g : Gs) (who : Int) : Option (Int × Int) := if 0 ≤ who then g[who.toNat]? else none
theorem gat_out {g : Gs} {who : Int} (h : who < 0 ∨ (g.length : Int) ≤ who) : gat g who = none := by
  unfold gat
  split
  · rw [List.getElem?_eq_none]; omega
  · rfl
theorem gat_in {g : Gs} {who : Int} (h : 0 ≤ who) (h' : who < (g.length : Int)) : ∃ p, g[who.toNat]? = some p ∧ gat g who = some p := by
  have hl : who.toNat < g.length := by omega
  exact ⟨_, List.getElem?_eq_getElem hl, by rw [gat, if_pos h, List.getElem?_eq_getElem hl]⟩
def okG (g : Gs) : Prop := ∀ p ∈ g, 0 ≤ p.1 ∧ p.1 ≤ 60000 ∧ 0 ≤ p.2 ∧ p.2 ≤ 1099511627776
theorem okG_zero (n : Nat) : okG (List.replicate n (0, 0)) := fun p hp => by
  rw [List.eq_of_mem_replicate hp]; decide
theorem okG_set {g : Gs} (h : okG g) (i : Nat) {x y : Int} (h1 : 0 ≤ x) (h2 : x ≤ 60000) (h3 : 0 ≤ y) (h4 : y ≤ 1099511627776) : okG (g.set i (x, y)) := fun p hp => by
  rcases List.mem_or_eq_of_mem_set hp with hp | rfl
  · exact h p hp
  · exact ⟨h1, h2, h3, h4⟩
/-- What each call answers; what it leaves. -/
def keyC (g : Gs) (grace who gen now : Int) : Int :=
  match gat g who with
  | none => 3
  | some p => if gen = p.1 ∨ gen = p.1 - 1 ∧ 0 ≤ gen ∧ now < p.2 + grace then 0 else 4
def rotC (g : Gs) (who gen now : Int) : Int :=
  match gat g who with
  | none => 3
  | some p => if gen ≠ p.1 + 1 ∨ 60000 < gen then 4 else if now < 0 ∨ 1099511627776 < now then 1 else 0
def setC (g : Gs) (who gen now : Int) : Int :=
  match gat g who with
  | none => 3
  | some _ => if gen < 0 ∨ 60000 < gen ∨ now < 0 ∨ 1099511627776 < now then 1 else 0
def putG (g : Gs) (code who gen now : Int) : Gs := if code = 0 then g.set who.toNat (gen, now) else g
def genC (g : Gs) (who : Int) : Int := match gat g who with | none => -1 | some p => p.1
def sinC (g : Gs) (who : Int) : Int := match gat g who with | none => -1 | some p => p.2
theorem putG_length (g : Gs) (c w n t : Int) : (putG g c w n t).length = g.length := by unfold putG; split <;> simp
end Go.Proofs.Ytandenkoejbloaa
