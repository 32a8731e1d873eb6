/- Walks of the plain word functions: rotations and rounds. -/
import Derived.Test.YtandenkoejbloaaProg
import Derived.Test.YtandenkoejbloaaWords
namespace Go.Proofs.Ytandenkoejbloaa
open Go.RowKit

theorem and63 (k : Int) (h0 : 0 ≤ k) (h1 : k < 64) : bits BinOp.and IntKind.u64 k 63 = k := by
  obtain ⟨n, rfl⟩ := Int.eq_ofNat_of_zero_le h0
  have hn : n < 64 := by omega
  clear h0 h1
  have : ∀ n : Fin 64, bits BinOp.and IntKind.u64 (n.val : Int) 63 = (n.val : Int) := by decide
  exact this ⟨n, hn⟩

set_option maxHeartbeats 400000 in
theorem rotl_any (x : W) (k : Int) (w : World) (h0 : 0 ≤ k) (h1 : k < 64) :
    Calls Try.prog 86 #[.int .u64 (u x), .int .i64 k] w fun e w' => e = .returned (.int .u64 (u (rotl x k.toNat))) ∧ w = w' := by
  have hk := and63 k h0 h1
  go_enter Try.func86, Try.ntmps86
  go_wp2
  go_ret
  exact ⟨ret_int (by rw [rotl, show (64 - k).toNat = 64 - k.toNat from by omega]), rfl⟩

set_option maxHeartbeats 400000 in
theorem rturn_any (x : W) (k : Int) (w : World) (h0 : 0 ≤ k) (h1 : k < 64) :
    Calls Try.prog 87 #[.int .u64 (u x), .int .u64 k] w fun e w' => e = .returned (.int .u64 (u (rotl x k.toNat))) ∧ w = w' := by
  go_enter Try.func87, Try.ntmps87
  go_wp2
  go_ret
  exact ⟨ret_int (by rw [rotl, show (64 - k).toNat = 64 - k.toNat from by omega]), rfl⟩

set_option maxHeartbeats 400000 in
theorem round_any (a b c d : W) (w : World) :
    Calls Try.prog 28 #[.int .u64 (u a), .int .u64 (u b), .int .u64 (u c), .int .u64 (u d)] w fun e w' =>
      e = .returned (.tuple #[.int .u64 (u (round (a, b, c, d)).1), .int .u64 (u (round (a, b, c, d)).2.1), .int .u64 (u (round (a, b, c, d)).2.2.1), .int .u64 (u (round (a, b, c, d)).2.2.2)]) ∧ w = w' := by
  go_enter Try.func28, Try.ntmps28
  go_wp2_with (go_at_call 86; refine (rotl_any _ _ _ (by decide) (by decide)).mono ?_; rintro e w' ⟨rfl, rfl⟩)
  exact bodyPost_ret (v := .tuple #[.int .u64 (u (round (a, b, c, d)).1), .int .u64 (u (round (a, b, c, d)).2.1), .int .u64 (u (round (a, b, c, d)).2.2.1), .int .u64 (u (round (a, b, c, d)).2.2.2)])
    (by simp [results, Try.results28, go_sem, round]) rfl ⟨rfl, rfl⟩

set_option maxHeartbeats 400000 in
theorem rround_any (a b c d : W) (w : World) :
    Calls Try.prog 29 #[.int .u64 (u a), .int .u64 (u b), .int .u64 (u c), .int .u64 (u d)] w fun e w' =>
      e = .returned (.tuple #[.int .u64 (u (round (a, b, c, d)).1), .int .u64 (u (round (a, b, c, d)).2.1), .int .u64 (u (round (a, b, c, d)).2.2.1), .int .u64 (u (round (a, b, c, d)).2.2.2)]) ∧ w = w' := by
  go_enter Try.func29, Try.ntmps29
  go_wp2_with (go_at_call 87; refine (rturn_any _ _ _ (by decide) (by decide)).mono ?_; rintro e w' ⟨rfl, rfl⟩)
  exact bodyPost_ret (v := .tuple #[.int .u64 (u (round (a, b, c, d)).1), .int .u64 (u (round (a, b, c, d)).2.1), .int .u64 (u (round (a, b, c, d)).2.2.1), .int .u64 (u (round (a, b, c, d)).2.2.2)])
    (by simp [results, Try.results29, go_sem, round]) rfl ⟨rfl, rfl⟩
end Go.Proofs.Ytandenkoejbloaa
