/- Walks of the document's Get and Put (over strings). -/
import Derived.Test.YtandenkoejbloaaPut
namespace Go.Proofs.Ytandenkoejbloaa
open Go Go.RowKit

theorem str_at (s : ByteArray) (i : Nat) (h : i < s.size) : s[i] = s.data.toList.getD i 0 := by
  have h' : i < s.data.toList.length := by simpa using h
  rw [List.getD_eq_getElem?_getD, List.getElem?_eq_getElem h']
  simp; rfl

def sby (s : ByteArray) (a k : Nat) : UInt8 := s.data.toList.getD (a + k) 0

set_option maxHeartbeats 1600000 in
theorem rget_ok (s : ByteArray) (a : Int) (w : World) (hs : s.size ≤ maxLen) (h0 : 0 ≤ a) (h1 : a + 8 ≤ s.size) :
    Calls Try.prog 31 #[.string s, .int .i64 a] w fun e w' => e = .returned (.tuple #[.int .u64 (u (wordAt s.data.toList a.toNat)), .int .i64 0]) ∧ w = w' := by
  obtain ⟨a, rfl⟩ := Int.eq_ofNat_of_zero_le h0
  rw [Int.toNat_natCast]
  unfold maxLen at hs
  have hd1 : decide ((a : Int) < 0) = false := by simp
  have hd2 : decide ((s.size : Int) < (a : Int)) = false := by simp; omega
  have hd3 : decide ((s.size : Int) - (a : Int) < 8) = false := by simp; omega
  go_enter Try.func31, Try.ntmps31
  go_wp2_with fail
  go_loop [6, 7] (fun n i => ∃ k : Nat, k ≤ 8 ∧ i = .int .i64 k ∧ n = .int .u64 (u (le (sby s a) k))) (fun _ i => 8 - (intOf i).toNat)
  case atStart => exact ⟨0, Nat.zero_le _, rfl, rfl⟩
  case round =>
    obtain ⟨k, hk, rfl, rfl⟩ := hrel
    by_cases hlt : k < 8
    · have hk8 : (k : Int) < 8 := by omega
      have hak : a + k < s.size := by omega
      have hi1 : 0 ≤ (a : Int) + (k : Int) := by omega
      have hi2 : (a : Int) + (k : Int) < (s.size : Int) := by omega
      have s1 := fun x : W => shift_shl_u x .u64 (8 * (k : Int)) (by omega) (by omega)
      generalize hn : le (sby s a) k = n1
      have HC := Lib.hid (show s[a + k] = sby s a k from str_at s (a + k) hak)
      have HN := Lib.hid hn
      clear hn
      go_wp2
      go_round
      case rel => exact ⟨k + 1, by omega, by go_num, by rw [le, HN.out, HC.out]⟩
      case measure => simp [intOf]; omega
    · obtain rfl : k = 8 := by omega
      go_wp2
      go_ret2
      exact ⟨rfl, rfl⟩

set_option maxHeartbeats 1600000 in
theorem rget_bad (s : ByteArray) (a : Int) (w : World) (hs : s.size ≤ maxLen) (h0 : a < 0 ∨ (s.size : Int) - 8 < a) (ha : -9223372036854775808 ≤ a ∧ a ≤ 9223372036854775807) :
    Calls Try.prog 31 #[.string s, .int .i64 a] w fun e w' => e = .returned (.tuple #[.int .u64 0, .int .i64 2]) ∧ w = w' := by
  unfold maxLen at hs
  by_cases h1 : a < 0
  · have hd1 : decide (a < 0) = true := by simpa using h1
    go_enter Try.func31, Try.ntmps31
    go_wp2
    go_ret2
    exact ⟨rfl, rfl⟩
  · have hd1 : decide (a < 0) = false := by simpa using h1
    by_cases h2 : (s.size : Int) < a
    · have hd2 : decide ((s.size : Int) < a) = true := by simpa using h2
      go_enter Try.func31, Try.ntmps31
      go_wp2
      go_ret2
      exact ⟨rfl, rfl⟩
    · have hd2 : decide ((s.size : Int) < a) = false := by simpa using h2
      have hd3 : decide ((s.size : Int) - a < 8) = true := by simp; omega
      go_enter Try.func31, Try.ntmps31
      go_wp2
      go_ret2
      exact ⟨rfl, rfl⟩
end Go.Proofs.Ytandenkoejbloaa
