/- Walk of sip.Sum. -/
import Derived.Test.YtandenkoejbloaaSum
namespace Go.Proofs.Ytandenkoejbloaa
open Go Go.RowKit

/-- Bytes' sum under a key. -/
def sumW (k : W × W) (l : List UInt8) : W := finW (absTo (startW k) l (l.length / 8)) (l.drop (8 * (l.length / 8))) l.length

set_option maxHeartbeats 800000 in
theorem ssum_any (k : W × W) (v : Value) (l : List UInt8) (w : World) (hv : Rd w v (l.map bv)) (hl : l.length ≤ 140737488355000) :
    Calls Try.prog 32 #[keyv k, v] w fun e w' => e = .returned (.int .u64 (u (sumW k l))) ∧ Fr none_ w w' := by
  have hv0 := hv
  obtain ⟨ao, cap, rfl, hc1, hc2, _⟩ := hv
  have HV := Lib.hid hv0
  clear hv0
  unfold keyv
  go_enter Try.func32, Try.ntmps32
  go_wp2_with fail
  refine (new_any k _).mono ?_
  rintro e w1 ⟨b, rfl, hB, hb, hf1⟩
  have hv1 := (HV.out.alloc (Obj.cells #[.int .u64 (u k.1), .int .u64 (u k.2)] 56)).kept hf1 (fun _ _ _ _ f => f)
  have hF1 := ((Fr.refl none_ w).alloc (Obj.cells #[.int .u64 (u k.1), .int .u64 (u k.2)] 56)).trans hf1
  have hB' : w.heap.size < b := by simp at hB; omega
  have hvb : l ≠ [] → (Value.slice ao (List.map bv l).length cap).ownBlock ≠ some b := fun hne h => by
    have := HV.out.lt (fun e => hne (List.map_eq_nil_iff.1 e)) b h
    omega
  rw [List.length_map] at hv1 hvb ⊢
  have HB := Lib.hid hb
  have HV1 := Lib.hid hv1
  have HF1 := Lib.hid hF1
  have HVB := Lib.hid hvb
  have hbs := Nat.le_of_lt hb.lt
  clear hb hv1 hF1 hvb hf1 HV
  go_wp2_with fail
  refine (write_any b _ _ [] 0 _ l w1.heap.size _ HB.out (Own.nil _ _ _) (Nat.le_refl _) HV1.out HVB.out (by decide) (by omega)).mono ?_
  rintro e w2 ⟨rfl, left2, hb2, ho2, hk2, hf2⟩
  rw [List.nil_append] at hb2 ho2
  have HB2 := Lib.hid hb2
  have HF2 := Lib.hid (HF1.out.step hf2 (fun i hi h => by rcases h with rfl | h; · omega
                                                          · cases h))
  have HR2 := Lib.hid ho2.rd
  clear hb2 ho2 hf2 hk2
  go_wp2_with fail
  refine (hsum_any b _ _ _ (0 + l.length) _ HB2.out HR2.out (by simp; omega)).mono ?_
  rintro e w3 ⟨rfl, hf3⟩
  have HF3 := Lib.hid (HF2.out.trans hf3)
  clear hf3
  go_wp2_with fail
  go_ret
  refine ⟨ret_int ?_, HF3.out⟩
  rfl
end Go.Proofs.Ytandenkoejbloaa
