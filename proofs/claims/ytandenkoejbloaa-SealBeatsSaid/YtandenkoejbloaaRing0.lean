/- Atomic numbers (sync/atomic's Int64): Add, Load, Store; generations in cells: plain laws. -/
import Derived.Test.YtandenkoejbloaaMac2
import Derived.Laws.LoneSync
namespace Go.Proofs.Ytandenkoejbloaa
open Go Go.RowKit

theorem aadd_any (b o : Nat) (q y : Int) (w : World) (hc : w.cell? ⟨b, o, none⟩ = some (.int .i64 q)) (hz : w.frozen? ⟨b, o, none⟩ = false) :
    Calls Try.prog 98 #[.pointer (some ⟨b, o, none⟩), .int .i64 y] w fun e w' => e = .returned (.int .i64 (wrap64 (q + y))) ∧ w' = w.setCell ⟨b, o, none⟩ (.int .i64 (wrap64 (q + y))) := by
  have hq : (callFunc 104 #[.pointer (some ⟨b, o, none⟩), .int .i64 y]).run Try.prog w = .ok (.value (.int .i64 (wrap64 (q + y)))) (w.setCell ⟨b, o, none⟩ (.int .i64 (wrap64 (q + y)))) :=
    run_call_add Try.func104 (by kernel_rfl) (by kernel_rfl) (by kernel_rfl) .i64 (by kernel_rfl) hc hz (by simp [go_sem, wrap64, IntKind.wrap_i64])
  go_enter Try.func98, Try.ntmps98
  go_wp2
  go_ret
  exact ⟨rfl, rfl⟩
theorem aload_any (b o : Nat) (q : Int) (w : World) (hc : w.cell? ⟨b, o, none⟩ = some (.int .i64 q)) :
    Calls Try.prog 102 #[.pointer (some ⟨b, o, none⟩)] w fun e w' => e = .returned (.int .i64 q) ∧ w' = w := by
  have hq : (callFunc 106 #[.pointer (some ⟨b, o, none⟩)]).run Try.prog w = .ok (.value (.int .i64 q)) w :=
    run_call_load Try.func106 (by kernel_rfl) (by kernel_rfl) (by kernel_rfl) .i64 (by kernel_rfl) hc
  go_enter Try.func102, Try.ntmps102
  go_wp2
  go_ret
  exact ⟨rfl, rfl⟩
theorem astore_any (b o : Nat) (q y : Int) (w : World) (hc : w.cell? ⟨b, o, none⟩ = some (.int .i64 q)) (hz : w.frozen? ⟨b, o, none⟩ = false) :
    Calls Try.prog 101 #[.pointer (some ⟨b, o, none⟩), .int .i64 y] w fun e w' => e = .returned (.tuple #[]) ∧ w' = w.setCell ⟨b, o, none⟩ (.int .i64 y) := by
  have hq : (callFunc 105 #[.pointer (some ⟨b, o, none⟩), .int .i64 y]).run Try.prog w = .ok (.value (.tuple #[])) (w.setCell ⟨b, o, none⟩ (.int .i64 y)) :=
    run_call_store Try.func105 (by kernel_rfl) (by kernel_rfl) (by kernel_rfl) (by kernel_rfl) hc hz
  go_enter Try.func101, Try.ntmps101
  go_wp2
  first
    | (go_end0; exact ⟨rfl, rfl⟩)
    | exact bodyPost_ret (results_none rfl _ _ _) rfl ⟨rfl, rfl⟩
end Go.Proofs.Ytandenkoejbloaa
