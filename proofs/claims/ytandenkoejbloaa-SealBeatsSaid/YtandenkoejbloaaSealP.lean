/- What a collector seals; what it leaves: plain laws; an envelope split. -/
import Derived.Test.YtandenkoejbloaaWsplit
namespace Go.Proofs.Ytandenkoejbloaa
open Go Go.RowKit

/-- A sealing's bytes; its code. -/
def slB (k : W × W) (m : Ms) : List UInt8 := if mayM m = true then sealB k m else []
def slC (m : Ms) : Int := if mayM m = true then 0 else 1
/-- A collector's generation, its last number. -/
abbrev St := Int × Int
def okS (st : St) : Prop := 0 ≤ st.1 ∧ st.1 ≤ 60000 ∧ 0 ≤ st.2 ∧ st.2 ≤ 1099511627776
def nxM (who : Int) (st : St) (kind gen epoch value metric : Int) : Ms := ⟨kind, who, gen, st.2 + 1, epoch, value, metric⟩
/-- What is left behind a sealing; behind a rotation. -/
def upS (m : Ms) (st : St) : St := if mayM m = true then (st.1, st.2 + 1) else st
def roS (m : Ms) (st : St) : St := if mayM m = true then (st.1 + 1, 0) else st
theorem may_bounds {m : Ms} (h : mayM m = true) : 1 ≤ m.seq ∧ m.seq ≤ 1099511627776 ∧ 0 ≤ m.gen ∧ m.gen ≤ 60000 := by
  unfold mayM inI at h
  simp only [Bool.and_eq_true, decide_eq_true_eq] at h
  omega
theorem okS_up {m : Ms} {st : St} (h : okS st) (hq : m.seq = st.2 + 1) : okS (upS m st) := by
  unfold upS
  split
  · rename_i hm
    have := may_bounds hm
    unfold okS at *
    exact ⟨h.1, h.2.1, by dsimp only; omega, by dsimp only; omega⟩
  · exact h
theorem okS_ro {m : Ms} {st : St} (h : okS st) (hq : m.gen = st.1 + 1) : okS (roS m st) := by
  unfold roS
  split
  · rename_i hm
    have := may_bounds hm
    unfold okS at *
    exact ⟨by dsimp only; omega, by dsimp only; omega, by dsimp only; omega, by dsimp only; omega⟩
  · exact h
theorem Blk.c7 {w w' : World} {b : Nat} {e : TypeId} {x0 x1 x2 x3 x4 x5 x6 : Value} (h : Blk w b e [x0, x1, x2, x3, x4, x5, x6]) (hf : Fr none_ w w') :
    w'.cell? ⟨b, 0, none⟩ = some x0 ∧ w'.cell? ⟨b, 1, none⟩ = some x1 ∧ w'.cell? ⟨b, 2, none⟩ = some x2 ∧ w'.cell? ⟨b, 3, none⟩ = some x3 ∧ w'.cell? ⟨b, 4, none⟩ = some x4 ∧ w'.cell? ⟨b, 5, none⟩ = some x5 ∧ w'.cell? ⟨b, 6, none⟩ = some x6 :=
  have h' := h.kept hf (fun f => f)
  ⟨h'.cell_of rfl, h'.cell_of rfl, h'.cell_of rfl, h'.cell_of rfl, h'.cell_of rfl, h'.cell_of rfl, h'.cell_of rfl⟩
theorem Blk.c2 {w w' : World} {b : Nat} {e : TypeId} {x0 x1 : Value} (h : Blk w b e [x0, x1]) (hf : Fr none_ w w') : w'.cell? ⟨b, 0, none⟩ = some x0 ∧ w'.cell? ⟨b, 1, none⟩ = some x1 :=
  have h' := h.kept hf (fun f => f)
  ⟨h'.cell_of rfl, h'.cell_of rfl⟩
theorem seal_all (k : W × W) (m : Ms) (w : World) : Calls Try.prog 55 #[keyv k, msgv m] w fun e w' => ∃ v, e = .returned (.tuple #[v, .int .i64 (slC m)]) ∧ Own w' w.heap.size 5 v ((slB k m).map bv) ∧ Fr none_ w w' := by
  unfold slB slC
  cases h : mayM m
  · exact (seal_bad k m w h).mono fun e w' ⟨he, hf⟩ => ⟨_, he, Own.nil _ _ _, hf⟩
  · exact (seal_ok k m w h).mono fun e w' ⟨v, he, ho, hf⟩ => ⟨v, he, ho, hf⟩
theorem split_seal (k : W × W) (m : Ms) (hm : mayM m = true) (v : Value) (wa : World) (h : Rd wa v ((sealB k m).map bv)) :
    Calls Try.prog 59 #[v] wa fun e w' => ∃ r, e = .returned (.tuple #[msgv m, r, keyv (tagW k (msgB m)), .int .i64 0]) ∧ Own w' wa.heap.size 5 r ((msgB m).map bv) ∧ Fr none_ wa w' := by
  have htk : (sealB k m).take 32 = msgB m := by unfold sealB; rw [List.take_left' (msgB_length m)]
  have hdr : (sealB k m).drop 32 = tagB (tagW k (msgB m)) := by unfold sealB; rw [List.drop_left' (msgB_length m)]
  have := split_ok v (sealB k m) m wa h (sealB_length _ _) (by rw [htk]; exact get_msg hm)
  rw [htk, hdr, show (wordAt (tagB (tagW k (msgB m))) 0, wordAt (tagB (tagW k (msgB m))) 8) = tagW k (msgB m) from Prod.ext (word_tag _).1 (word_tag _).2] at this
  exact this
theorem split_nil (v : Value) (wa : World) (h : Rd wa v (([] : List UInt8).map bv)) :
    Calls Try.prog 59 #[v] wa fun e w' => e = .returned (.tuple #[msgv zeroM, .slice none 0 0, keyv (0, 0), .int .i64 2]) ∧ Fr none_ wa w' := split_short v [] wa h (by decide)
end Go.Proofs.Ytandenkoejbloaa
