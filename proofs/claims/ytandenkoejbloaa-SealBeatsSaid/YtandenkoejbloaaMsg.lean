/- Messages and their bytes: plain laws. -/
import Derived.Test.YtandenkoejbloaaTags
namespace Go.Proofs.Ytandenkoejbloaa
open Go
theorem wordAt_behind (l m : List UInt8) (a : Nat) (h : a = l.length) : wordAt (l ++ m) a = wordAt m 0 := by
  subst h
  unfold wordAt
  refine le_congr _ _ 8 (fun j hj => ?_)
  rw [List.getD_eq_getElem?_getD, List.getD_eq_getElem?_getD, List.getElem?_append_right (by omega)]
  congr 2; omega
/-- A number as a word. -/
def wi (n : Int) : W := BitVec.ofInt 64 n
theorem wi_toInt {n : Int} (h : -9223372036854775808 ≤ n) (h' : n ≤ 9223372036854775807) : (wi n).toInt = n := by
  unfold wi; rw [BitVec.toInt_ofInt, Int.bmod_def]; omega
theorem wi_u {n : Int} (h : 0 ≤ n) (h' : n < 18446744073709551616) : u (wi n) = n := by
  unfold u wi; rw [BitVec.toNat_ofInt]; omega
theorem v8_lo (n : Int) (h : 0 ≤ n) (h' : n < 256) : v8 (lo (wi n)) = n := by
  unfold v8 lo wi
  show (((BitVec.ofInt 64 n).setWidth 8).toNat : Int) = n
  rw [BitVec.toNat_setWidth, BitVec.toNat_ofInt]; omega
theorem low4 (l l' : List UInt8) (a a' : Nat) (h : ∀ j, j < 4 → l.getD (a + j) 0 = l'.getD (a' + j) 0) : (wordAt l a).toNat % 4294967296 = (wordAt l' a').toNat % 4294967296 := by
  have : (wordAt l a).setWidth 32 = (wordAt l' a').setWidth 32 := by
    apply BitVec.eq_of_getLsbD_eq
    intro i hi
    unfold wordAt
    rw [BitVec.getLsbD_setWidth, BitVec.getLsbD_setWidth, le_bit _ 8 _ (Nat.le_refl _), le_bit _ 8 _ (Nat.le_refl _), h (i / 8) (by omega)]
  have := congrArg BitVec.toNat this
  simpa using this
/-- What an envelope holds. -/
structure Ms where
  kind : Int
  who : Int
  gen : Int
  seq : Int
  epoch : Int
  value : Int
  metric : Int
deriving DecidableEq
def inI (n lo hi : Int) : Bool := decide (lo ≤ n) && decide (n ≤ hi)
def mayM (m : Ms) : Bool :=
  inI m.kind 1 3 && inI m.who 0 15 && inI m.gen 0 60000 && inI m.seq 1 1099511627776 && inI m.epoch 0 1099511627776 && inI m.metric 0 (if m.kind = 1 then 3 else 0) && inI m.value 0 (if m.kind = 1 then 1099511627776 else 0)
def msgB (m : Ms) : List UInt8 :=
  [1, lo (wi m.kind), lo (wi m.who), lo (wi m.metric)] ++ (putB (wi m.gen)).take 4 ++ putB (wi m.seq) ++ putB (wi m.epoch) ++ putB (wi m.value)
theorem msgB_length (m : Ms) : (msgB m).length = 32 := by simp [msgB, putB_length]
def rawM (l : List UInt8) : Ms :=
  ⟨v8 (l.getD 1 0), v8 (l.getD 2 0), ((wordAt l 4).toNat % 4294967296 : Nat), (wordAt l 8).toInt, (wordAt l 16).toInt, (wordAt l 24).toInt, v8 (l.getD 3 0)⟩
def getM (l : List UInt8) : Option Ms := if l.length = 32 ∧ mayM (rawM l) = true ∧ msgB (rawM l) = l then some (rawM l) else none
theorem raw_msg {m : Ms} (h : mayM m = true) : rawM (msgB m) = m := by
  obtain ⟨kind, who, gen, seq, epoch, value, metric⟩ := m
  have hb : 1 ≤ kind ∧ kind ≤ 3 ∧ 0 ≤ who ∧ who ≤ 15 ∧ 0 ≤ gen ∧ gen ≤ 60000 ∧ 1 ≤ seq ∧ seq ≤ 1099511627776 ∧ 0 ≤ epoch ∧ epoch ≤ 1099511627776 ∧ 0 ≤ metric ∧ metric ≤ 3 ∧ 0 ≤ value ∧ value ≤ 1099511627776 := by
    unfold mayM inI at h
    simp only [Bool.and_eq_true, decide_eq_true_eq] at h
    have h3 : (if kind = 1 then (3 : Int) else 0) ≤ 3 := by split <;> omega
    have h4 : (if kind = 1 then (1099511627776 : Int) else 0) ≤ 1099511627776 := by split <;> omega
    omega
  have e8 : wordAt (msgB ⟨kind, who, gen, seq, epoch, value, metric⟩) 8 = wi seq := by
    unfold msgB
    rw [List.append_assoc, List.append_assoc, wordAt_behind _ _ 8 (by simp [putB_length]), wordAt_append _ _ 0 (by simp [putB_length]), word_put]
  have e16 : wordAt (msgB ⟨kind, who, gen, seq, epoch, value, metric⟩) 16 = wi epoch := by
    unfold msgB
    rw [List.append_assoc, wordAt_behind _ _ 16 (by simp [putB_length]), wordAt_append _ _ 0 (by simp [putB_length]), word_put]
  have e24 : wordAt (msgB ⟨kind, who, gen, seq, epoch, value, metric⟩) 24 = wi value := by
    unfold msgB
    rw [wordAt_behind _ _ 24 (by simp [putB_length]), word_put]
  have e4 : (wordAt (msgB ⟨kind, who, gen, seq, epoch, value, metric⟩) 4).toNat % 4294967296 = (wordAt (putB (wi gen)) 0).toNat % 4294967296 := by
    refine low4 _ _ 4 0 (fun j hj => ?_)
    unfold msgB
    simp only [List.append_assoc]
    rw [List.getD_eq_getElem?_getD, List.getD_eq_getElem?_getD, List.getElem?_append_right (by simp), List.getElem?_append_left (by simp [putB_length]; omega), List.getElem?_take_of_lt (by simp; omega)]
    congr 2; simp
  unfold rawM
  rw [e8, e16, e24, e4, word_put, wi_toInt (by omega) (by omega), wi_toInt (by omega) (by omega), wi_toInt (by omega) (by omega)]
  have f1 : (msgB ⟨kind, who, gen, seq, epoch, value, metric⟩).getD 1 0 = lo (wi kind) := rfl
  have f2 : (msgB ⟨kind, who, gen, seq, epoch, value, metric⟩).getD 2 0 = lo (wi who) := rfl
  have f3 : (msgB ⟨kind, who, gen, seq, epoch, value, metric⟩).getD 3 0 = lo (wi metric) := rfl
  rw [f1, f2, f3, v8_lo _ (by omega) (by omega), v8_lo _ (by omega) (by omega), v8_lo _ (by omega) (by omega)]
  have hg := wi_u (n := gen) (by omega) (by omega)
  unfold u at hg
  have : ((((wi gen).toNat % 4294967296 : Nat)) : Int) = gen := by omega
  rw [this]
theorem get_msg {m : Ms} (h : mayM m = true) : getM (msgB m) = some m := by
  unfold getM
  rw [raw_msg h, if_pos ⟨msgB_length m, h, rfl⟩]
theorem msg_of_get {l : List UInt8} {m : Ms} (h : getM l = some m) : mayM m = true ∧ msgB m = l := by
  unfold getM at h
  split at h
  · rename_i hc
    cases h
    exact hc.2
  · cases h
theorem msgB_inj {a b : Ms} (ha : mayM a = true) (hb : mayM b = true) (h : msgB a = msgB b) : a = b := by
  have := get_msg ha
  rw [h, get_msg hb] at this
  exact (Option.some.inj this).symm
theorem low4_lt (l : List UInt8) (a : Nat) (h : ∀ j, 4 ≤ j → j < 8 → l.getD (a + j) 0 = 0) : (wordAt l a).toNat < 4294967296 := by
  have : (wordAt l a) = ((wordAt l a).setWidth 32).setWidth 64 := by
    apply BitVec.eq_of_getLsbD_eq
    intro i hi
    rw [BitVec.getLsbD_setWidth, BitVec.getLsbD_setWidth]
    by_cases h32 : i < 32
    · simp [hi, h32]
    · unfold wordAt
      rw [le_bit _ 8 _ (Nat.le_refl _)]
      rw [h (i / 8) (by omega) (by omega)]
      simp [h32]
  rw [this, BitVec.toNat_setWidth, BitVec.toNat_setWidth]
  omega
theorem ref_gen (l : List UInt8) (h : 8 ≤ l.length) : (wordAt ((l.drop 4).take 4 ++ [0, 0, 0, 0]) 0).toNat = (wordAt l 4).toNat % 4294967296 := by
  have h4 : ((l.drop 4).take 4).length = 4 := by simp; omega
  have h1 := low4 l ((l.drop 4).take 4 ++ [0, 0, 0, 0]) 4 0 (fun j hj => by
    rw [List.getD_eq_getElem?_getD, List.getD_eq_getElem?_getD, List.getElem?_append_left (by omega), List.getElem?_take_of_lt (by omega), List.getElem?_drop]
    congr 2; omega)
  have h2 := low4_lt ((l.drop 4).take 4 ++ [0, 0, 0, 0]) 0 (fun j hj hj' => by
    rw [List.getD_eq_getElem?_getD, List.getElem?_append_right (by omega), h4]
    have : 0 + j - 4 = 0 ∨ 0 + j - 4 = 1 ∨ 0 + j - 4 = 2 ∨ 0 + j - 4 = 3 := by omega
    rcases this with h | h | h | h <;> rw [h] <;> rfl)
  omega
end Go.Proofs.Ytandenkoejbloaa
