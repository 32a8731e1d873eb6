/- Walks of sip.Put and the document's twins on strings. -/
import Derived.Test.YtandenkoejbloaaGet
import Derived.Test.YtandenkoejbloaaApp
namespace Go.Proofs.Ytandenkoejbloaa
open Go Go.RowKit

theorem info_u8 : (Try.prog.info? 5).map (fun i => (i.zero, i.size, i.bytes)) = some (some (.int .u8 0), 1, 1) := by kernel_rfl
/-- A number's bytes. -/
def putTo (n : W) (k : Nat) : List UInt8 := (List.range k).map fun j => lo (n >>> (8 * j))
theorem putTo_succ (n : W) (k : Nat) : putTo n (k + 1) = putTo n k ++ [lo (n >>> (8 * k))] := by
  unfold putTo; rw [List.range_succ, List.map_append]; rfl
theorem putTo_length (n : W) (k : Nat) : (putTo n k).length = k := by simp [putTo]
def putB (n : W) : List UInt8 := putTo n 8

set_option maxHeartbeats 1600000 in
theorem put_any (n : W) (w : World) :
    Calls Try.prog 34 #[.int .u64 (u n)] w fun e w' => ∃ v, e = .returned v ∧ Own w' w.heap.size 5 v ((putB n).map bv) ∧ Fr none_ w w' := by
  obtain ⟨i0, hi, hz0, hz1, hz2⟩ := info_parts info_u8
  go_enter Try.func34, Try.ntmps34
  go_wp2_with fail
  go_loopw [3, 5] (fun v i wr => ∃ k : Nat, k ≤ 8 ∧ i = .int .i64 k ∧ Own wr w.heap.size 5 v ((putTo n k).map bv) ∧ Fr none_ w wr) (fun _ i _ => 8 - (intOf i).toNat)
  case atStart => exact ⟨0, Nat.zero_le _, rfl, Own.nil _ _ _, Fr.refl _ _⟩
  case round =>
    obtain ⟨k, hk, rfl, hown, hf⟩ := hrel
    by_cases hlt : k < 8
    · have hk8 : (k : Int) < 8 := by omega
      have hl := putTo_length n k
      go_wp2_with (first | (at_builtin; refine wpList_append_b _ rfl _ _ 25 25 rfl w.heap.size 5 i0 (.int .u8 0) 1 Try.underlying25 hi hz0 hz1 hz2 rfl _ _ rfl (hown.alloc _) _ rfl 1 [bv (lo (n >>> (8 * k)))] ?c1 ?c2 ?c3 ?c4 ?c5))
      case c1 => exact src_of_rd Try.underlying25 (rd_made wr [bv (lo (n >>> (8 * k)))] 5 (by show 1 ≤ maxLen; decide)) (bvs_one [lo (n >>> (8 * k))])
      case c2 => simp [hl, maxLen]; omega
      case c3 => simp [hl]; omega
      case c4 => have := hf.size; simp; omega
      intro v' w1 hown' hfr' hblk
      have hf1 := hown.frame hf (Nat.le_refl _) (Fr.alloc (Fr.refl none_ wr) _) hfr'
      rw [show List.map bv (putTo n k) ++ [bv (lo (n >>> (8 * k)))] = List.map bv (putTo n (k + 1)) from by rw [putTo_succ, List.map_append]; rfl] at hown'
      clear hown hf hfr' hblk
      go_wp2
      go_roundw
      case rel => exact ⟨k + 1, by omega, by go_num, hown', hf1⟩
      case measure => simp [intOf]; omega
    · obtain rfl : k = 8 := by omega
      go_wp2
      go_ret
      exact ⟨_, rfl, hown, hf⟩
end Go.Proofs.Ytandenkoejbloaa
