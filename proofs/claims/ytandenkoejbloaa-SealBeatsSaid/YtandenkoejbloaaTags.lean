/- Tags and their bytes: plain laws. -/
import Derived.Test.YtandenkoejbloaaMore
namespace Go.Proofs.Ytandenkoejbloaa
open Go
theorem putB_inj {a b : W} (h : putB a = putB b) : a = b := by rw [← word_put a, h, word_put]
theorem le_bit (f : Nat → UInt8) : ∀ (k i : Nat), k ≤ 8 → (le f k).getLsbD i = (decide (i < 8 * k) && (f (i / 8)).toBitVec.getLsbD (i % 8))
  | 0, i, _ => by simp [le]
  | k + 1, i, hk => by
    rw [le, BitVec.getLsbD_or, le_bit f k i (by omega), BitVec.getLsbD_shiftLeft]
    unfold zx
    rw [BitVec.getLsbD_setWidth]
    by_cases h1 : i < 8 * k
    · have h2 : i < 8 * (k + 1) := by omega
      simp [h1, h2]
    · by_cases h2 : i < 8 * (k + 1)
      · have e1 : i / 8 = k := by omega
        have e2 : i - 8 * k = i % 8 := by omega
        have h3 : i < 64 := by omega
        have h4 : i - 8 * k < 64 := by omega
        simp only [h1, h2, h3, e1, e2]
        have h5 : i % 8 < 64 := by omega
        simp [h5]
      · have h3 : (f k).toBitVec.getLsbD (i - 8 * k) = false := BitVec.getLsbD_of_ge _ _ (by omega)
        simp [h1, h2, h3]
theorem lo_le (f : Nat → UInt8) (j : Nat) (hj : j < 8) : lo (le f 8 >>> (8 * j)) = f j := by
  apply UInt8.toBitVec_inj.1
  unfold lo
  rw [UInt8.toBitVec_ofBitVec]
  apply BitVec.eq_of_getLsbD_eq
  intro i hi
  rw [BitVec.getLsbD_setWidth, BitVec.getLsbD_ushiftRight, le_bit f 8 _ (Nat.le_refl _)]
  have e1 : (8 * j + i) / 8 = j := by omega
  have e2 : (8 * j + i) % 8 = i := by omega
  have e3 : 8 * j + i < 64 := by omega
  simp [hi, e1, e2, e3]
theorem put_wordAt (l : List UInt8) (a : Nat) (h : a + 8 ≤ l.length) : putB (wordAt l a) = (l.drop a).take 8 := by
  apply List.ext_getElem
  · rw [putB_length, List.length_take, List.length_drop]; omega
  · intro j h1 h2
    have hj : j < 8 := by rw [putB_length] at h1; exact h1
    have e := putTo_at (wordAt l a) 8 j hj
    rw [List.getD_eq_getElem?_getD] at e
    have h1' : j < (putTo (wordAt l a) 8).length := h1
    rw [List.getElem?_eq_getElem h1', Option.getD_some] at e
    show (putTo (wordAt l a) 8)[j] = _
    rw [e]
    unfold wordAt
    rw [lo_le _ j hj, List.getElem_take, List.getElem_drop]
    have : a + j < l.length := by omega
    simp [List.getElem?_eq_getElem this]
def tagB (t : W × W) : List UInt8 := putB t.1 ++ putB t.2
theorem tagB_inj {s t : W × W} (h : tagB s = tagB t) : s = t := by
  have := List.append_inj h (by rw [putB_length, putB_length])
  exact Prod.ext (putB_inj this.1) (putB_inj this.2)
theorem tagB_word (l : List UInt8) (h : l.length = 16) : tagB (wordAt l 0, wordAt l 8) = l := by
  unfold tagB
  rw [put_wordAt l 0 (by omega), put_wordAt l 8 (by omega), List.drop_zero]
  have : ((l.drop 8).take 8) = l.drop 8 := List.take_of_length_le (by rw [List.length_drop]; omega)
  rw [this, List.take_append_drop]
end Go.Proofs.Ytandenkoejbloaa
