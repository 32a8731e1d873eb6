/- Walk of quorumitelaw1.told. -/
import Derived.Test.YtandenkoejbloaaSsum
namespace Go.Proofs.Ytandenkoejbloaa
open Go Go.RowKit

def k0 : W × W := (0x0706050403020100#64, 0x0f0e0d0c0b0a0908#64)
theorem key_any (w : World) : Calls Try.prog 85 #[] w fun e w' => e = .returned (keyv k0) ∧ Fr none_ w w' := by
  go_enter Try.func85, Try.ntmps85
  go_wp2
  exact bodyPost_ret (v := .agg #[.int .u64 506097522914230528, .int .u64 1084818905618843912]) (by simp [results, Try.results85, go_sem]) rfl ⟨rfl, (Fr.refl _ _).alloc _⟩
set_option maxHeartbeats 400000 in
theorem write_nil (v : Value) (w : World) : Calls Try.prog 37 #[.pointer none, v] w fun e w' => e = .returned (.int .i64 0) ∧ w = w' := by
  go_enter Try.func37, Try.ntmps37
  go_wp2
  go_ret
  exact ⟨rfl, rfl⟩
set_option maxHeartbeats 400000 in
theorem hsum_nil (w : World) : Calls Try.prog 38 #[.pointer none] w fun e w' => e = .returned (.int .u64 0) ∧ w = w' := by
  go_enter Try.func38, Try.ntmps38
  go_wp2
  go_ret
  exact ⟨rfl, rfl⟩
theorem sum_k0 : (u (sumW k0 []) == 8246050544436514353) = true := by decide +kernel
theorem sum_k0' : (u (sumW k0 [0]) == 8428550223375919101) = true := by decide +kernel

set_option maxRecDepth 100000 in
set_option maxHeartbeats 1600000 in
theorem told1_any (w : World) : Calls Try.prog 27 #[] w fun e w' => e = .returned (.bool true) ∧ Fr none_ w w' := by
  go_enter Try.func27, Try.ntmps27
  go_wp2_with fail
  have hr1 : Rd (w.alloc (.cells #[.int .u8 1, .int .u8 2, .int .u8 0, .int .u8 0, .int .u8 0, .int .u8 0, .int .u8 0, .int .u8 0, .int .u8 9] 5)) (.slice (some ⟨w.heap.size, 0, none⟩) 9 9) ([1, 2, 0, 0, 0, 0, 0, 0, 9].map bv) := rd_made w ([1, 2, 0, 0, 0, 0, 0, 0, 9].map bv) _ (by decide)
  refine (get_ok _ _ 0 _ hr1 (by decide) (by decide)).mono ?_
  rintro e w' ⟨rfl, rfl⟩
  have HF1 := Lib.hid ((Fr.refl none_ w).alloc (.cells #[.int .u8 1, .int .u8 2, .int .u8 0, .int .u8 0, .int .u8 0, .int .u8 0, .int .u8 0, .int .u8 0, .int .u8 9] 5))
  generalize (w.alloc (.cells #[.int .u8 1, .int .u8 2, .int .u8 0, .int .u8 0, .int .u8 0, .int .u8 0, .int .u8 0, .int .u8 0, .int .u8 9] 5)) = w1 at *
  clear hr1
  have hn : (u (wordAt [1, 2, 0, 0, 0, 0, 0, 0, 9] (Int.toNat 0)) == 513) = true := by decide +kernel
  generalize u (wordAt [1, 2, 0, 0, 0, 0, 0, 0, 9] (Int.toNat 0)) = n1 at *
  go_wp2_with fail
  refine (get_bad _ 2 _ 0 _ (by decide) (by decide)).mono ?_
  rintro e w' ⟨rfl, rfl⟩
  have HF2 := Lib.hid (HF1.out.alloc (.cells #[.int .u8 1, .int .u8 2] 5))
  generalize (w1.alloc (.cells #[.int .u8 1, .int .u8 2] 5)) = w2 at *
  clear HF1
  go_wp2_with fail
  refine (key_any _).mono ?_
  rintro e w3 ⟨rfl, hf3⟩
  have HF3 := Lib.hid (HF2.out.trans hf3)
  clear hf3 HF2
  go_wp2_with fail
  refine (new_any k0 _).mono ?_
  rintro e w4 ⟨b, rfl, hbs, hb, hf4⟩
  have HF4 := Lib.hid (HF3.out.trans hf4)
  have HB4 := Lib.hid hb
  have hwb : w.heap.size ≤ b := Nat.le_trans HF3.out.size hbs
  clear hf4 hb HF3 hbs
  go_wp2_with fail
  refine (key_any _).mono ?_
  rintro e w5 ⟨rfl, hf5⟩
  have HF5 := Lib.hid (HF4.out.trans hf5)
  have HB5 := Lib.hid (HB4.out.kept hf5 (fun f => f))
  clear hf5 HF4 HB4
  go_wp2_with fail
  refine (ssum_any k0 _ [] _ (Rd.nil_ _) (by decide)).mono ?_
  rintro e w6 ⟨rfl, hf6⟩
  have HF6 := Lib.hid (HF5.out.trans hf6)
  have HB6 := Lib.hid (HB5.out.kept hf6 (fun f => f))
  have hs1 := sum_k0
  clear hf6 HF5 HB5
  go_wp2_with fail
  refine (key_any _).mono ?_
  rintro e w7 ⟨rfl, hf7⟩
  have HF7 := Lib.hid (HF6.out.trans hf7)
  have HB7 := Lib.hid (HB6.out.kept hf7 (fun f => f))
  clear hf7 HF6 HB6 hs1
  go_wp2_with fail
  have hr7 : Rd (w7.alloc (.cells #[.int .u8 0] 5)) (.slice (some ⟨w7.heap.size, 0, none⟩) 1 1) ([0].map bv) := rd_made w7 ([0].map bv) _ (by decide)
  refine (ssum_any k0 _ [0] _ hr7 (by decide)).mono ?_
  rintro e w8 ⟨rfl, hf8⟩
  have HF8 := Lib.hid ((HF7.out.alloc (.cells #[.int .u8 0] 5)).trans hf8)
  have HB8 := Lib.hid ((HB7.out.alloc (.cells #[.int .u8 0] 5)).kept hf8 (fun f => f))
  have hs1 := sum_k0'
  clear hf8 HF7 HB7 hr7
  go_wp2_with fail
  have hr8 : Rd (w8.alloc (.cells #[.int .u8 0] 5)) (.slice (some ⟨w8.heap.size, 0, none⟩) 1 1) ([0].map bv) := rd_made w8 ([0].map bv) _ (by decide)
  refine (write_any b _ _ [] 0 _ [0] w.heap.size _ (HB8.out.alloc (.cells #[.int .u8 0] 5)) (Own.nil _ _ _) (HF8.out.alloc (.cells #[.int .u8 0] 5)).size hr8 (fun _ h => by simp [Value.ownBlock] at h; exact absurd h (Nat.ne_of_gt HB8.out.lt)) (by decide) (by decide)).mono ?_
  rintro e w9 ⟨rfl, left9, hb9, ho9, hk9, hf9⟩
  have hq : Fr none_ w w9 := Fr.step (HF8.out.alloc (.cells #[.int .u8 0] 5)) hf9 (fun i hi h => h.elim (fun h => absurd hi (by omega)) (fun h => by cases h))
  have HF9 := Lib.hid hq
  clear hq
  have HB9 := Lib.hid hb9
  have HR9 := Lib.hid ho9.rd
  have hs2 : (u (finW (absTo (startW k0) (([] : List UInt8) ++ [0]) ((([] : List UInt8) ++ [0]).length / 8)) ((([] : List UInt8) ++ [0]).drop (8 * ((([] : List UInt8) ++ [0]).length / 8))) (0 + 1)) == 8428550223375919101) = true := by decide +kernel
  have HS2 := Lib.hid hs2
  clear hf9 hb9 ho9 hk9 HF8 HB8 hr8 hs1 hs2
  go_wp2_with fail
  refine (hsum_any b _ left9 _ (0 + 1) _ HB9.out HR9.out (by decide)).mono ?_
  rintro e w10 ⟨rfl, hf10⟩
  have hs3 := HS2.out
  generalize u (finW (absTo (startW k0) (([] : List UInt8) ++ [0]) ((([] : List UInt8) ++ [0]).length / 8)) ((([] : List UInt8) ++ [0]).drop (8 * ((([] : List UInt8) ++ [0]).length / 8))) (0 + 1)) = n10 at *
  have HF10 := Lib.hid (HF9.out.trans hf10)
  clear hf10 HF9 HB9 HR9 HS2
  go_wp2_with fail
  refine (hsum_nil _).mono ?_
  rintro e w' ⟨rfl, rfl⟩
  go_wp2_with fail
  refine (write_nil _ _).mono ?_
  rintro e w' ⟨rfl, rfl⟩
  go_wp2_with fail
  refine (put_any 5 _).mono ?_
  rintro e w11 ⟨v11, rfl, ho11, hf11⟩
  obtain ⟨ao, cap, rfl, _, _⟩ := ho11.shape
  have hl : ((putB 5).map bv).length = 8 := by rw [List.length_map, putB, putTo_length]
  rw [hl]
  have HF11 := Lib.hid (HF10.out.trans hf11)
  clear hf11 ho11 HF10 hl
  go_wp2_with fail
  go_ret
  exact ⟨rfl, HF11.out⟩
end Go.Proofs.Ytandenkoejbloaa
