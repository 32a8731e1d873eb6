/- Walks of sip.Get, sip.Put and the document's twins. -/
import Derived.Test.YtandenkoejbloaaMem
import Derived.Test.YtandenkoejbloaaWords
import Derived.Test.YtandenkoejbloaaProg
import Derived.IntWalk
import Derived.Lib.Hide
namespace Go.Proofs.Ytandenkoejbloaa
open Go Go.RowKit

/-- The word of the first k of some bytes, the lowest first. -/
def le (f : Nat → UInt8) : Nat → W
  | 0 => 0
  | k + 1 => le f k ||| zx (f k) <<< (8 * k)
/-- The word that stands at a place. -/
def wordAt (l : List UInt8) (at_ : Nat) : W := le (fun k => l.getD (at_ + k) 0) 8

set_option maxHeartbeats 1600000 in
theorem get_ok (v : Value) (l : List UInt8) (a : Int) (w : World) (h : Rd w v (l.map bv)) (h0 : 0 ≤ a) (h1 : a + 8 ≤ l.length) :
    Calls Try.prog 30 #[v, .int .i64 a] w fun e w' => e = .returned (.tuple #[.int .u64 (u (wordAt l a.toNat)), .int .i64 0]) ∧ w = w' := by
  obtain ⟨a, rfl⟩ := Int.eq_ofNat_of_zero_le h0
  rw [Int.toNat_natCast]
  obtain ⟨ao, cap, rfl, hc1, hc2, hr⟩ := h
  rw [List.length_map] at *
  unfold maxLen at hc2
  obtain ⟨b, o, rfl, _, _⟩ := hr 0 (bv (l.getD 0 0)) (by simp; exact ⟨l.getD 0 0, by rw [List.getD_eq_getElem?_getD, List.getElem?_eq_getElem (by omega)]; simp, rfl⟩)
  have hcell : ∀ j, j < l.length → w.cell? ⟨b, o + j, none⟩ = some (.int .u8 (v8 (l.getD j 0))) := fun j hj => by
    obtain ⟨b', o', e1, _, e2⟩ := hr j (bv (l.getD j 0)) (by simp; exact ⟨l.getD j 0, by rw [List.getD_eq_getElem?_getD, List.getElem?_eq_getElem hj]; simp, rfl⟩)
    cases e1; exact e2
  clear hr
  have HC := Lib.hid hcell
  clear hcell
  have hd1 : decide ((a : Int) < 0) = false := by simp
  have hd2 : decide ((l.length : Int) - 8 < (a : Int)) = false := by simp; omega
  go_enter Try.func30, Try.ntmps30
  go_wp2_with fail
  go_loop [6, 17] (fun n i => ∃ k : Nat, k ≤ 8 ∧ i = .int .i64 k ∧ n = .int .u64 (u (le (fun k => l.getD (a + k) 0) k))) (fun _ i => 8 - (intOf i).toNat)
  case atStart => exact ⟨0, Nat.zero_le _, rfl, rfl⟩
  case round =>
    obtain ⟨k, hk, rfl, rfl⟩ := hrel
    by_cases hlt : k < 8
    · have hk8 : (k : Int) < 8 := by omega
      have hcell := HC.out (a + k) (by omega)
      have s1 := fun x : W => shift_shl_u x .u64 (8 * (k : Int)) (by omega) (by omega)
      generalize hn : le (fun k => l.getD (a + k) 0) k = n1
      generalize hc : l.getD (a + k) 0 = c1 at hcell
      have HN := Lib.hid hn
      have HD := Lib.hid hc
      clear hn hc
      go_wp2
      go_round
      case rel => exact ⟨k + 1, by omega, by go_num, by rw [le, HN.out, HD.out]⟩
      case measure => simp [intOf]; omega
    · obtain rfl : k = 8 := by omega
      go_wp2
      go_ret2
      exact ⟨rfl, rfl⟩

set_option maxHeartbeats 1600000 in
theorem get_bad (ao : Option Addr) (len cap : Nat) (a : Int) (w : World) (hl : len ≤ maxLen) (h0 : a < 0 ∨ (len : Int) - 8 < a) :
    Calls Try.prog 30 #[.slice ao len cap, .int .i64 a] w fun e w' => e = .returned (.tuple #[.int .u64 0, .int .i64 2]) ∧ w = w' := by
  unfold maxLen at hl
  rcases h0 with h0 | h0
  · have hd1 : decide (a < 0) = true := by simpa using h0
    go_enter Try.func30, Try.ntmps30
    go_wp2
    go_ret2
    exact ⟨rfl, rfl⟩
  · by_cases h1 : a < 0
    · have hd1 : decide (a < 0) = true := by simpa using h1
      go_enter Try.func30, Try.ntmps30
      go_wp2
      go_ret2
      exact ⟨rfl, rfl⟩
    · have hd1 : decide (a < 0) = false := by simpa using h1
      have hd2 : decide ((len : Int) - 8 < a) = true := by simpa using h0
      go_enter Try.func30, Try.ntmps30
      go_wp2
      go_ret2
      exact ⟨rfl, rfl⟩
end Go.Proofs.Ytandenkoejbloaa
