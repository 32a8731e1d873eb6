/- What '==' says of two messages. -/
import Derived.Test.YtandenkoejbloaaEq
namespace Go.Proofs.Ytandenkoejbloaa
open Go Go.RowKit
set_option maxRecDepth 100000 in
set_option maxHeartbeats 3200000 in
theorem eq_msg (a0 a1 a2 a3 a4 a5 a6 b0 b1 b2 b3 b4 b5 b6 : Int) (w : World) : (Op.equalIn 10000 68 (.agg #[.int .i64 a0, .int .i64 a1, .int .i64 a2, .int .i64 a3, .int .i64 a4, .int .i64 a5, .int .i64 a6]) (.agg #[.int .i64 b0, .int .i64 b1, .int .i64 b2, .int .i64 b3, .int .i64 b4, .int .i64 b5, .int .i64 b6])).run Try.prog w = .ok (a0 == b0 && a1 == b1 && a2 == b2 && a3 == b3 && a4 == b4 && a5 == b5 && a6 == b6) w := by
  have u3 := Try.underlying3
  have u2 := Try.underlying2
  have hS : Try.prog.underlying 68 = some (.struct (Try.prog.fieldsOf 68)) := by kernel_rfl
  have hp : Try.prog.stoodInHeld 68 = false := by kernel_rfl
  rw [show (10000 : Nat) = 9999 + 1 from rfl, run_equalIn_struct w 9999 68 _ _ hS hp]
  simp only [Program.fieldsOf, Try.underlying68]
  go_simp
  by_cases h0 : a0 = b0
  case neg => simp [h0]
  by_cases h1 : a1 = b1
  case neg => simp [h0, h1]
  by_cases h2 : a2 = b2
  case neg => simp [h0, h1, h2]
  by_cases h3 : a3 = b3
  case neg => simp [h0, h1, h2, h3]
  by_cases h4 : a4 = b4
  case neg => simp [h0, h1, h2, h3, h4]
  by_cases h5 : a5 = b5
  case neg => simp [h0, h1, h2, h3, h4, h5]
  by_cases h6 : a6 = b6
  case neg => simp [h0, h1, h2, h3, h4, h5, h6]
  simp [h0, h1, h2, h3, h4, h5, h6]
theorem eq_msgs (a b : Ms) (w : World) : (Op.equalIn 10000 68 (.agg #[.int .i64 a.kind, .int .i64 a.who, .int .i64 a.gen, .int .i64 a.seq, .int .i64 a.epoch, .int .i64 a.value, .int .i64 a.metric]) (.agg #[.int .i64 b.kind, .int .i64 b.who, .int .i64 b.gen, .int .i64 b.seq, .int .i64 b.epoch, .int .i64 b.value, .int .i64 b.metric])).run Try.prog w = .ok (decide (a = b)) w := by
  rw [eq_msg]
  congr 1
  cases a; cases b
  rw [Bool.eq_iff_iff]
  simp [Bool.and_eq_true, and_assoc]
end Go.Proofs.Ytandenkoejbloaa
