/- Small laws that several rows use: a number comes back from its bytes; where a cell of a read slice lies. Plain. -/
import Derived.Test.YtandenkoejbloaaRsum
namespace Go.Proofs.Ytandenkoejbloaa
open Go Go.RowKit

theorem Rd.at_ {w : World} {ao : Option Addr} {n cap : Nat} {vs : List Value} (h : Rd w (.slice ao n cap) vs) {j : Nat} {x : Value} (hj : vs[j]? = some x) : ∃ b o, ao = some ⟨b, o, none⟩ ∧ b < w.heap.size ∧ w.cell? ⟨b, o + j, none⟩ = some x := by
  obtain ⟨ao', cap', e1, _, _, hc⟩ := h
  simp only [Value.slice.injEq] at e1
  obtain ⟨rfl, _, _⟩ := e1
  exact hc j x hj
theorem zx_lo_bit (x : W) (i : Nat) : (zx (lo x)).getLsbD i = (decide (i < 8) && x.getLsbD i) := by
  unfold zx lo
  simp only [UInt8.toBitVec_ofBitVec, BitVec.getLsbD_setWidth]
  by_cases h : i < 8
  · simp [h, show i < 64 from by omega]
  · simp [h]
theorem le_lo_bit (n : W) : ∀ (k i : Nat), k ≤ 8 → (le (fun j => lo (n >>> (8 * j))) k).getLsbD i = (decide (i < 8 * k) && n.getLsbD i)
  | 0, i, _ => by simp [le]
  | k + 1, i, hk => by
    rw [le, BitVec.getLsbD_or, le_lo_bit n k i (by omega), BitVec.getLsbD_shiftLeft, zx_lo_bit, BitVec.getLsbD_ushiftRight]
    by_cases h1 : i < 8 * k
    · simp [h1, show i < 8 * (k + 1) from by omega]
    · by_cases h2 : i < 8 * (k + 1)
      · simp [h1, h2, show i < 64 from by omega, show i - 8 * k < 8 from by omega, show 8 * k + (i - 8 * k) = i from by omega]
      · simp [h1, h2, show ¬ (i - 8 * k < 8) from by omega]
theorem putTo_at (n : W) (k j : Nat) (h : j < k) : (putTo n k).getD j 0 = lo (n >>> (8 * j)) := by
  unfold putTo
  rw [List.getD_eq_getElem?_getD, List.getElem?_map, List.getElem?_range h]
  rfl
theorem word_put (n : W) : wordAt (putB n) 0 = n := by
  unfold wordAt
  rw [le_congr _ (fun j => lo (n >>> (8 * j))) 8 (fun j hj => by rw [Nat.zero_add]; exact putTo_at n 8 j hj)]
  apply BitVec.eq_of_getLsbD_eq
  intro i hi
  rw [le_lo_bit n 8 i (Nat.le_refl _)]
  simp [show i < 8 * 8 from hi]
theorem putB_length (n : W) : (putB n).length = 8 := putTo_length n 8
theorem modN (q : Nat) (hq : 0 < q) (i : Int) : ∃ m : Nat, m < q ∧ (IntKind.u64.wrap i).tmod (q : Int) = (m : Int) := by
  have h0 : 0 ≤ IntKind.u64.wrap i := by rw [IntKind.wrap_u64]; omega
  rw [Int.tmod_eq_emod_of_nonneg h0]
  have h1 := Int.emod_nonneg (IntKind.u64.wrap i) (show (q : Int) ≠ 0 by omega)
  have h2 := Int.emod_lt_of_pos (IntKind.u64.wrap i) (show (0 : Int) < q by omega)
  exact ⟨((IntKind.u64.wrap i) % (q : Int)).toNat, by omega, by omega⟩
/-- What a step that writes nothing old leaves of a box of two words. -/
theorem box2_kept {w w' : World} {b : Nat} {x y : Value} (hf : Fr none_ w w') (hb : b < w.heap.size) (h : w.cell? ⟨b, 0, none⟩ = some x ∧ w.cell? ⟨b, 1, none⟩ = some y) : w'.cell? ⟨b, 0, none⟩ = some x ∧ w'.cell? ⟨b, 1, none⟩ = some y :=
  ⟨(hf.cell hb (fun f => f)).trans h.1, (hf.cell hb (fun f => f)).trans h.2⟩
end Go.Proofs.Ytandenkoejbloaa
