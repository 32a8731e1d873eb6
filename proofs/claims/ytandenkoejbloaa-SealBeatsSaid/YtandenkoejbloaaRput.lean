/- Walk of the document's Put. -/
import Derived.Test.YtandenkoejbloaaRget
import Derived.Test.YtandenkoejbloaaStr
namespace Go.Proofs.Ytandenkoejbloaa
open Go Go.RowKit

theorem rpset (n : W) (k : Nat) (hk : k < 8) : ((putTo n k ++ List.replicate (8 - k) 0).map bv).set k (bv (lo (n >>> (8 * k)))) = (putTo n (k + 1) ++ List.replicate (8 - (k + 1)) 0).map bv := by
  rw [← List.map_set, putTo_succ, List.set_append_right _ _ (by rw [putTo_length]; exact Nat.le_refl _), putTo_length, Nat.sub_self, show 8 - k = (8 - (k + 1)) + 1 from by omega, List.replicate_succ, List.set_cons_zero, List.append_assoc]
  rfl

set_option maxHeartbeats 1600000 in
theorem rput_any (n : W) (w : World) :
    Calls Try.prog 35 #[.int .u64 (u n)] w fun e w' => e = .returned (.string (bs (putB n))) ∧ Fr none_ w w' := by
  have hmk : ∀ w : World, (Instr.makeSlice 25 (.int .i64 8) (.int .i64 8)).run Try.prog w = .ok (.slice (some ⟨w.heap.size, 0, none⟩) 8 8) (w.alloc (.cells #[.int .u8 0, .int .u8 0, .int .u8 0, .int .u8 0, .int .u8 0, .int .u8 0, .int .u8 0, .int .u8 0] 5)) := fun w => by kernel_rfl
  go_enter Try.func35, Try.ntmps35
  go_wp2_with fail
  go_loopw [4] (fun i wr => ∃ k : Nat, k ≤ 8 ∧ i = .int .i64 k ∧ Blk wr w.heap.size 5 ((putTo n k ++ List.replicate (8 - k) 0).map bv) ∧ Fr none_ w wr) (fun i _ => 8 - (intOf i).toNat)
  case atStart => exact ⟨0, Nat.zero_le _, rfl, Blk.new _ _ _, (Fr.refl _ _).alloc _⟩
  case round =>
    obtain ⟨k, hk, rfl, hb, hf⟩ := hrel
    clear hmk
    by_cases hlt : k < 8
    · have hk8 : (k : Int) < 8 := by omega
      have c0 : wr.cell? ⟨w.heap.size, k, none⟩ = some (bv 0) := hb.cell_of (by
        rw [List.map_append, List.getElem?_append_right (by simp [putTo_length])]
        simp only [List.length_map, putTo_length, Nat.sub_self, List.map_replicate, List.getElem?_replicate]
        rw [if_pos (by omega)])
      have f0 := hb.free k
      have HB := Lib.hid hb
      have HF := Lib.hid hf
      clear hb hf
      go_wp2
      go_roundw
      case rel =>
        refine ⟨k + 1, by omega, by go_num, ?_, HF.out.setCell (p := ⟨w.heap.size, k, none⟩) (fun h => absurd h (Nat.lt_irrefl _)) _⟩
        rw [← rpset n k hlt]
        exact HB.out.setCell k _
      case measure => simp [intOf]; omega
    · obtain rfl : k = 8 := by omega
      have hrd : Rd wr (.slice (some ⟨w.heap.size, 0, none⟩) 8 8) ((putB n).map bv) := by
        refine ⟨_, 8, by rw [List.length_map, putB, putTo_length], by rw [List.length_map, putB, putTo_length]; decide, by decide, fun j x hj => ⟨w.heap.size, 0, rfl, hb.lt, ?_⟩⟩
        rw [Nat.zero_add]
        exact hb.cell_of (by simpa [putB] using hj)
      have hcv := run_str_of_rd (P := Try.prog) Try.underlying25 Try.underlying5 Try.underlying9 hrd
      have HF := Lib.hid hf
      clear hb hf hrd
      go_wp2
      go_ret
      exact ⟨rfl, HF.out⟩

theorem rget_bs (l : List UInt8) (a : Int) (w : World) (hs : l.length ≤ maxLen) (h0 : 0 ≤ a) (h1 : a + 8 ≤ l.length) :
    Calls Try.prog 31 #[.string (bs l), .int .i64 a] w fun e w' => e = .returned (.tuple #[.int .u64 (u (wordAt l a.toNat)), .int .i64 0]) ∧ w = w' := by
  have := rget_ok (bs l) a w (by rw [bs_size]; exact hs) h0 (by rw [bs_size]; exact h1)
  rw [bs_data] at this
  exact this
end Go.Proofs.Ytandenkoejbloaa
