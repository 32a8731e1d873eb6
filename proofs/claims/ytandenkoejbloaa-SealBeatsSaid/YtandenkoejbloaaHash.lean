/- What is written in parts has the sum of all. Plain law, and the writes' contract in these words. -/
import Derived.Test.YtandenkoejbloaaMore
import Derived.Test.YtandenkoejbloaaTold1
namespace Go.Proofs.Ytandenkoejbloaa
open Go Go.RowKit

theorem absTo_add (s : W × W × W × W) (l : List UInt8) (q : Nat) : ∀ r, absTo s l (q + r) = absTo (absTo s l q) (l.drop (8 * q)) r
  | 0 => rfl
  | r + 1 => by
    rw [← Nat.add_assoc, absTo, absTo, absTo_add s l q r, wordAt_drop]
    congr 2
    omega
/-- How far the bytes are taken, and what is left. -/
def taken (k : W × W) (l : List UInt8) : W × W × W × W := absTo (startW k) l (l.length / 8)
def leftOf (l : List UInt8) : List UInt8 := l.drop (8 * (l.length / 8))
theorem left_lt (l : List UInt8) : (leftOf l).length < 8 := by unfold leftOf; rw [List.length_drop]; omega
theorem parts (k : W × W) (a b : List UInt8) :
    absTo (taken k a) (leftOf a ++ b) ((leftOf a ++ b).length / 8) = taken k (a ++ b) ∧ (leftOf a ++ b).drop (8 * ((leftOf a ++ b).length / 8)) = leftOf (a ++ b) := by
  have h1 : (a ++ b).drop (8 * (a.length / 8)) = leftOf a ++ b := by unfold leftOf; rw [List.drop_append_of_le_length (by omega)]
  have h2 : (a ++ b).length / 8 = a.length / 8 + (leftOf a ++ b).length / 8 := by
    unfold leftOf; simp only [List.length_append, List.length_drop]; omega
  constructor
  · rw [taken, taken, h2, absTo_add, absTo_append _ a b _ (by omega), h1]
  · show (leftOf a ++ b).drop (8 * ((leftOf a ++ b).length / 8)) = (a ++ b).drop (8 * ((a ++ b).length / 8))
    rw [h2, Nat.mul_add, ← List.drop_drop, h1]
theorem sum_taken (k : W × W) (l : List UInt8) : finW (taken k l) (leftOf l) l.length = sumW k l := rfl

/-- At b lies a hash of key k that was given the bytes l; what it keeps of its own lies from base on. -/
def HashAt (w : World) (base b : Nat) (k : W × W) (left : Value) (l : List UInt8) : Prop :=
  Blk w b 132 (hcells (taken k l) left (l.length : Nat)) ∧ Own w base 5 left ((leftOf l).map bv)
section
variable {w w' : World} {base b : Nat} {k : W × W} {left : Value} {l : List UInt8}
theorem HashAt.ne (h : HashAt w base b k left l) : left.ownBlock ≠ some b := own_ne h.2 h.1 (by decide)
theorem HashAt.kept {S : Nat → Prop} (h : HashAt w base b k left l) (hf : Fr S w w') (h1 : ¬ S b) (h2 : ∀ i, left.ownBlock = some i → ¬ S i) : HashAt w' base b k left l := ⟨h.1.kept hf h1, h.2.kept hf h2⟩
theorem HashAt.same (h : HashAt w base b k left l) (hf : Fr none_ w w') : HashAt w' base b k left l := h.kept hf (fun f => f) (fun _ _ f => f)
end

theorem hnew_any (k : W × W) (w : World) :
    Calls Try.prog 36 #[keyv k] w fun e w' => ∃ b, e = .returned (.pointer (some ⟨b, 0, none⟩)) ∧ w.heap.size ≤ b ∧ b < w'.heap.size ∧ (∀ base, HashAt w' base b k (.slice none 0 0) []) ∧ Fr none_ w w' := by
  refine (new_any k w).mono ?_
  rintro e w' ⟨b, rfl, hb, hB, hf⟩
  exact ⟨b, rfl, hb, hB.lt, fun base => ⟨hB, Own.nil _ _ _⟩, hf⟩
theorem hwrite_any (b : Nat) (k : W × W) (left : Value) (l : List UInt8) (v : Value) (m : List UInt8) (base : Nat) (w : World)
    (h : HashAt w base b k left l) (hbase : base ≤ w.heap.size) (hv : Rd w v (m.map bv)) (hvb : m ≠ [] → v.ownBlock ≠ some b) (hn : l.length + m.length ≤ 140737488355000) :
    Calls Try.prog 37 #[.pointer (some ⟨b, 0, none⟩), v] w fun e w' => e = .returned (.int .i64 m.length) ∧
      ∃ left', HashAt w' base b k left' (l ++ m) ∧ (∀ i, left'.ownBlock = some i → left.ownBlock = some i ∨ w.heap.size ≤ i) ∧ Fr (fun i => i = b ∨ left.ownBlock = some i) w w' := by
  refine (write_any b (taken k l) left (leftOf l) l.length v m base w h.1 h.2 hbase hv hvb (left_lt l) hn).mono ?_
  rintro e w' ⟨rfl, left', hB, ho, hk, hf⟩
  rw [(parts k l m).1] at hB
  rw [(parts k l m).2] at ho
  rw [← List.length_append] at hB
  exact ⟨rfl, left', ⟨hB, ho⟩, hk, hf⟩
theorem hasks_any (b : Nat) (k : W × W) (left : Value) (l : List UInt8) (base : Nat) (w : World) (h : HashAt w base b k left l) :
    Calls Try.prog 38 #[.pointer (some ⟨b, 0, none⟩)] w fun e w' => e = .returned (.int .u64 (u (sumW k l))) ∧ Fr none_ w w' :=
  hsum_any b (taken k l) left (leftOf l) l.length w h.1 h.2.rd (left_lt l)
end Go.Proofs.Ytandenkoejbloaa
