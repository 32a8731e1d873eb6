/- Walks of quorumitelaw4.WireBounds at single parts and edges. -/
import Derived.Test.YtandenkoejbloaaTold4
import Derived.Test.YtandenkoejbloaaFacts
namespace Go.Proofs.Ytandenkoejbloaa
open Go Go.RowKit

set_option maxRecDepth 100000 in
set_option maxHeartbeats 3200000 in
theorem bounds_6_0_0 (w : World) (part edge kind kd : Int) (hk : (IntKind.u64.wrap part).tmod 7 = 6) (he : (IntKind.u64.wrap edge).tmod 4 = 0) (q : Nat) (hqa : (IntKind.u64.wrap kind).tmod 3 = (q : Int)) (hqi : IntKind.i64.wrap (q : Int) = q) (hq : IntKind.i64.wrap (1 + (q : Int)) = kd) (hkd : kd = 1) :
    Calls Try.prog 17 #[.int .i64 part, .int .i64 edge, .int .i64 kind] w fun e w' => e = .returned (.bool true) ∧ Fr none_ w w' := by
  have hm : mayM ⟨kd, 0, 0, 1, 0, 0, 0⟩ = true := by subst hkd; decide
  have hk1 : (kd == 1) = true := by subst hkd; rfl
  have hk2 : (kd != 1) = false := by subst hkd; rfl
  have hk3 : decide (kd = 1) = true := by subst hkd; rfl
  have HP : ∀ wa : World, Calls Try.prog 53 #[.agg #[.int .i64 kd, .int .i64 0, .int .i64 0, .int .i64 1, .int .i64 0, .int .i64 0, .int .i64 0]] wa fun e w' => ∃ v, e = .returned (.tuple #[v, .int .i64 0]) ∧ Own w' wa.heap.size 5 v ((msgB ⟨kd, 0, 0, 1, 0, 0, 0⟩).map bv) ∧ Fr none_ wa w' := fun wa => wput_ok ⟨kd, 0, 0, 1, 0, 0, 0⟩ wa hm
  have HM : ∀ wa : World, Calls Try.prog 61 #[.agg #[.int .i64 kd, .int .i64 0, .int .i64 0, .int .i64 1, .int .i64 0, .int .i64 0, .int .i64 0]] wa fun e w' => e = .returned (.bool true) ∧ Fr none_ wa w' := fun wa => by have := may_any ⟨kd, 0, 0, 1, 0, 0, 0⟩ wa; rw [hm] at this; exact this
  have HR : ∀ wa : World, Calls Try.prog 62 #[.agg #[.int .i64 kd, .int .i64 0, .int .i64 0, .int .i64 1, .int .i64 0, .int .i64 0, .int .i64 0]] wa fun e w' => e = .returned (.bool true) ∧ Fr none_ wa w' := fun wa => by have := rmay_any ⟨kd, 0, 0, 1, 0, 0, 0⟩ wa; rw [hm] at this; exact this
  clear hm hkd
  have hB5 := (((Blk.new w #[.int .i64 kd, .int .i64 0, .int .i64 0, .int .i64 1, .int .i64 0, .int .i64 0, .int .i64 0] 68).alloc (.cells #[.int .i64 3, .int .i64 15, .int .i64 60000, .int .i64 1099511627776, .int .i64 1099511627776, .int .i64 1099511627776, .int .i64 3] 2)).alloc (.cells #[.int .i64 1, .int .i64 0, .int .i64 0, .int .i64 1, .int .i64 0, .int .i64 0, .int .i64 0] 2)).alloc (.cells #[.int .i64 0, .int .i64 (-1), .int .i64 3, .int .i64 4] 2)
  have hF5 := ((((Fr.refl none_ w).alloc (.cells #[.int .i64 kd, .int .i64 0, .int .i64 0, .int .i64 1, .int .i64 0, .int .i64 0, .int .i64 0] 68)).alloc (.cells #[.int .i64 3, .int .i64 15, .int .i64 60000, .int .i64 1099511627776, .int .i64 1099511627776, .int .i64 1099511627776, .int .i64 3] 2)).alloc (.cells #[.int .i64 1, .int .i64 0, .int .i64 0, .int .i64 1, .int .i64 0, .int .i64 0, .int .i64 0] 2)).alloc (.cells #[.int .i64 0, .int .i64 (-1), .int .i64 3, .int .i64 4] 2)
  go_enter Try.func17, Try.ntmps17
  go_wp2_with fail
  generalize ((((w.alloc (.cells #[.int .i64 kd, .int .i64 0, .int .i64 0, .int .i64 1, .int .i64 0, .int .i64 0, .int .i64 0] 68)).alloc (.cells #[.int .i64 3, .int .i64 15, .int .i64 60000, .int .i64 1099511627776, .int .i64 1099511627776, .int .i64 1099511627776, .int .i64 3] 2)).alloc (.cells #[.int .i64 1, .int .i64 0, .int .i64 0, .int .i64 1, .int .i64 0, .int .i64 0, .int .i64 0] 2)).alloc (.cells #[.int .i64 0, .int .i64 (-1), .int .i64 3, .int .i64 4] 2)) = w5 at *
  refine (HP w5).mono ?_
  rintro e w6 ⟨vp, rfl, _, hf6⟩
  go_wp2_with fail
  refine (told4_any _).mono ?_
  rintro e w7 ⟨rfl, hf7⟩
  obtain ⟨a0, a1, a2, a3, a4, a5, a6⟩ := hB5.at7 (hf6.trans hf7)
  go_wp2_with fail
  clear a0 a1 a2 a3 a4 a5 a6
  refine (HM w7).mono ?_
  rintro e w8 ⟨rfl, hf8⟩
  obtain ⟨a0, a1, a2, a3, a4, a5, a6⟩ := hB5.at7 ((hf6.trans hf7).trans hf8)
  go_wp2_with fail
  refine (HR w8).mono ?_
  rintro e w9 ⟨rfl, hf9⟩
  go_wp2
  go_ret
  exact ⟨rfl, hF5.trans (((hf6.trans hf7).trans hf8).trans hf9)⟩

set_option maxRecDepth 100000 in
set_option maxHeartbeats 3200000 in
theorem bounds_6_0_1 (w : World) (part edge kind kd : Int) (hk : (IntKind.u64.wrap part).tmod 7 = 6) (he : (IntKind.u64.wrap edge).tmod 4 = 0) (q : Nat) (hqa : (IntKind.u64.wrap kind).tmod 3 = (q : Int)) (hqi : IntKind.i64.wrap (q : Int) = q) (hq : IntKind.i64.wrap (1 + (q : Int)) = kd) (hkd : kd = 2 ∨ kd = 3) :
    Calls Try.prog 17 #[.int .i64 part, .int .i64 edge, .int .i64 kind] w fun e w' => e = .returned (.bool true) ∧ Fr none_ w w' := by
  have hm : mayM ⟨kd, 0, 0, 1, 0, 0, 0⟩ = true := by rcases hkd with rfl | rfl <;> decide
  have hk1 : (kd == 1) = false := by rcases hkd with rfl | rfl <;> rfl
  have hk2 : (kd != 1) = true := by rcases hkd with rfl | rfl <;> rfl
  have hk3 : decide (kd = 1) = false := by rcases hkd with rfl | rfl <;> rfl
  have HP : ∀ wa : World, Calls Try.prog 53 #[.agg #[.int .i64 kd, .int .i64 0, .int .i64 0, .int .i64 1, .int .i64 0, .int .i64 0, .int .i64 0]] wa fun e w' => ∃ v, e = .returned (.tuple #[v, .int .i64 0]) ∧ Own w' wa.heap.size 5 v ((msgB ⟨kd, 0, 0, 1, 0, 0, 0⟩).map bv) ∧ Fr none_ wa w' := fun wa => wput_ok ⟨kd, 0, 0, 1, 0, 0, 0⟩ wa hm
  have HM : ∀ wa : World, Calls Try.prog 61 #[.agg #[.int .i64 kd, .int .i64 0, .int .i64 0, .int .i64 1, .int .i64 0, .int .i64 0, .int .i64 0]] wa fun e w' => e = .returned (.bool true) ∧ Fr none_ wa w' := fun wa => by have := may_any ⟨kd, 0, 0, 1, 0, 0, 0⟩ wa; rw [hm] at this; exact this
  have HR : ∀ wa : World, Calls Try.prog 62 #[.agg #[.int .i64 kd, .int .i64 0, .int .i64 0, .int .i64 1, .int .i64 0, .int .i64 0, .int .i64 0]] wa fun e w' => e = .returned (.bool true) ∧ Fr none_ wa w' := fun wa => by have := rmay_any ⟨kd, 0, 0, 1, 0, 0, 0⟩ wa; rw [hm] at this; exact this
  clear hm hkd
  have hB5 := (((Blk.new w #[.int .i64 kd, .int .i64 0, .int .i64 0, .int .i64 1, .int .i64 0, .int .i64 0, .int .i64 0] 68).alloc (.cells #[.int .i64 3, .int .i64 15, .int .i64 60000, .int .i64 1099511627776, .int .i64 1099511627776, .int .i64 1099511627776, .int .i64 3] 2)).alloc (.cells #[.int .i64 1, .int .i64 0, .int .i64 0, .int .i64 1, .int .i64 0, .int .i64 0, .int .i64 0] 2)).alloc (.cells #[.int .i64 0, .int .i64 (-1), .int .i64 3, .int .i64 4] 2)
  have hF5 := ((((Fr.refl none_ w).alloc (.cells #[.int .i64 kd, .int .i64 0, .int .i64 0, .int .i64 1, .int .i64 0, .int .i64 0, .int .i64 0] 68)).alloc (.cells #[.int .i64 3, .int .i64 15, .int .i64 60000, .int .i64 1099511627776, .int .i64 1099511627776, .int .i64 1099511627776, .int .i64 3] 2)).alloc (.cells #[.int .i64 1, .int .i64 0, .int .i64 0, .int .i64 1, .int .i64 0, .int .i64 0, .int .i64 0] 2)).alloc (.cells #[.int .i64 0, .int .i64 (-1), .int .i64 3, .int .i64 4] 2)
  go_enter Try.func17, Try.ntmps17
  go_wp2_with fail
  generalize ((((w.alloc (.cells #[.int .i64 kd, .int .i64 0, .int .i64 0, .int .i64 1, .int .i64 0, .int .i64 0, .int .i64 0] 68)).alloc (.cells #[.int .i64 3, .int .i64 15, .int .i64 60000, .int .i64 1099511627776, .int .i64 1099511627776, .int .i64 1099511627776, .int .i64 3] 2)).alloc (.cells #[.int .i64 1, .int .i64 0, .int .i64 0, .int .i64 1, .int .i64 0, .int .i64 0, .int .i64 0] 2)).alloc (.cells #[.int .i64 0, .int .i64 (-1), .int .i64 3, .int .i64 4] 2)) = w5 at *
  refine (HP w5).mono ?_
  rintro e w6 ⟨vp, rfl, _, hf6⟩
  go_wp2_with fail
  refine (told4_any _).mono ?_
  rintro e w7 ⟨rfl, hf7⟩
  obtain ⟨a0, a1, a2, a3, a4, a5, a6⟩ := hB5.at7 (hf6.trans hf7)
  go_wp2_with fail
  clear a0 a1 a2 a3 a4 a5 a6
  refine (HM w7).mono ?_
  rintro e w8 ⟨rfl, hf8⟩
  obtain ⟨a0, a1, a2, a3, a4, a5, a6⟩ := hB5.at7 ((hf6.trans hf7).trans hf8)
  go_wp2_with fail
  refine (HR w8).mono ?_
  rintro e w9 ⟨rfl, hf9⟩
  go_wp2
  go_ret
  exact ⟨rfl, hF5.trans (((hf6.trans hf7).trans hf8).trans hf9)⟩

set_option maxRecDepth 100000 in
set_option maxHeartbeats 3200000 in
theorem bounds_6_1_0 (w : World) (part edge kind kd : Int) (hk : (IntKind.u64.wrap part).tmod 7 = 6) (he : (IntKind.u64.wrap edge).tmod 4 = 1) (q : Nat) (hqa : (IntKind.u64.wrap kind).tmod 3 = (q : Int)) (hqi : IntKind.i64.wrap (q : Int) = q) (hq : IntKind.i64.wrap (1 + (q : Int)) = kd) (hkd : kd = 1) :
    Calls Try.prog 17 #[.int .i64 part, .int .i64 edge, .int .i64 kind] w fun e w' => e = .returned (.bool true) ∧ Fr none_ w w' := by
  have hm : mayM ⟨kd, 0, 0, 1, 0, 0, (-1)⟩ = false := by subst hkd; decide
  have hk1 : (kd == 1) = true := by subst hkd; rfl
  have hk2 : (kd != 1) = false := by subst hkd; rfl
  have hk3 : decide (kd = 1) = true := by subst hkd; rfl
  have HP : ∀ wa : World, Calls Try.prog 53 #[.agg #[.int .i64 kd, .int .i64 0, .int .i64 0, .int .i64 1, .int .i64 0, .int .i64 0, .int .i64 (-1)]] wa fun e w' => e = .returned (.tuple #[.slice none 0 0, .int .i64 1]) ∧ Fr none_ wa w' := fun wa => wput_bad ⟨kd, 0, 0, 1, 0, 0, (-1)⟩ wa hm
  have HM : ∀ wa : World, Calls Try.prog 61 #[.agg #[.int .i64 kd, .int .i64 0, .int .i64 0, .int .i64 1, .int .i64 0, .int .i64 0, .int .i64 (-1)]] wa fun e w' => e = .returned (.bool false) ∧ Fr none_ wa w' := fun wa => by have := may_any ⟨kd, 0, 0, 1, 0, 0, (-1)⟩ wa; rw [hm] at this; exact this
  have HR : ∀ wa : World, Calls Try.prog 62 #[.agg #[.int .i64 kd, .int .i64 0, .int .i64 0, .int .i64 1, .int .i64 0, .int .i64 0, .int .i64 (-1)]] wa fun e w' => e = .returned (.bool false) ∧ Fr none_ wa w' := fun wa => by have := rmay_any ⟨kd, 0, 0, 1, 0, 0, (-1)⟩ wa; rw [hm] at this; exact this
  clear hm hkd
  have hB5 := (((Blk.new w #[.int .i64 kd, .int .i64 0, .int .i64 0, .int .i64 1, .int .i64 0, .int .i64 0, .int .i64 (-1)] 68).alloc (.cells #[.int .i64 3, .int .i64 15, .int .i64 60000, .int .i64 1099511627776, .int .i64 1099511627776, .int .i64 1099511627776, .int .i64 3] 2)).alloc (.cells #[.int .i64 1, .int .i64 0, .int .i64 0, .int .i64 1, .int .i64 0, .int .i64 0, .int .i64 0] 2)).alloc (.cells #[.int .i64 0, .int .i64 (-1), .int .i64 3, .int .i64 4] 2)
  have hF5 := ((((Fr.refl none_ w).alloc (.cells #[.int .i64 kd, .int .i64 0, .int .i64 0, .int .i64 1, .int .i64 0, .int .i64 0, .int .i64 (-1)] 68)).alloc (.cells #[.int .i64 3, .int .i64 15, .int .i64 60000, .int .i64 1099511627776, .int .i64 1099511627776, .int .i64 1099511627776, .int .i64 3] 2)).alloc (.cells #[.int .i64 1, .int .i64 0, .int .i64 0, .int .i64 1, .int .i64 0, .int .i64 0, .int .i64 0] 2)).alloc (.cells #[.int .i64 0, .int .i64 (-1), .int .i64 3, .int .i64 4] 2)
  go_enter Try.func17, Try.ntmps17
  go_wp2_with fail
  generalize ((((w.alloc (.cells #[.int .i64 kd, .int .i64 0, .int .i64 0, .int .i64 1, .int .i64 0, .int .i64 0, .int .i64 (-1)] 68)).alloc (.cells #[.int .i64 3, .int .i64 15, .int .i64 60000, .int .i64 1099511627776, .int .i64 1099511627776, .int .i64 1099511627776, .int .i64 3] 2)).alloc (.cells #[.int .i64 1, .int .i64 0, .int .i64 0, .int .i64 1, .int .i64 0, .int .i64 0, .int .i64 0] 2)).alloc (.cells #[.int .i64 0, .int .i64 (-1), .int .i64 3, .int .i64 4] 2)) = w5 at *
  refine (HP w5).mono ?_
  rintro e w6 ⟨rfl, hf6⟩
  go_wp2_with fail
  refine (told4_any _).mono ?_
  rintro e w7 ⟨rfl, hf7⟩
  obtain ⟨a0, a1, a2, a3, a4, a5, a6⟩ := hB5.at7 (hf6.trans hf7)
  go_wp2_with fail
  clear a0 a1 a2 a3 a4 a5 a6
  refine (HM w7).mono ?_
  rintro e w8 ⟨rfl, hf8⟩
  obtain ⟨a0, a1, a2, a3, a4, a5, a6⟩ := hB5.at7 ((hf6.trans hf7).trans hf8)
  go_wp2_with fail
  refine (HR w8).mono ?_
  rintro e w9 ⟨rfl, hf9⟩
  go_wp2
  go_ret
  exact ⟨rfl, hF5.trans (((hf6.trans hf7).trans hf8).trans hf9)⟩

set_option maxRecDepth 100000 in
set_option maxHeartbeats 3200000 in
theorem bounds_6_1_1 (w : World) (part edge kind kd : Int) (hk : (IntKind.u64.wrap part).tmod 7 = 6) (he : (IntKind.u64.wrap edge).tmod 4 = 1) (q : Nat) (hqa : (IntKind.u64.wrap kind).tmod 3 = (q : Int)) (hqi : IntKind.i64.wrap (q : Int) = q) (hq : IntKind.i64.wrap (1 + (q : Int)) = kd) (hkd : kd = 2 ∨ kd = 3) :
    Calls Try.prog 17 #[.int .i64 part, .int .i64 edge, .int .i64 kind] w fun e w' => e = .returned (.bool true) ∧ Fr none_ w w' := by
  have hm : mayM ⟨kd, 0, 0, 1, 0, 0, (-1)⟩ = false := by rcases hkd with rfl | rfl <;> decide
  have hk1 : (kd == 1) = false := by rcases hkd with rfl | rfl <;> rfl
  have hk2 : (kd != 1) = true := by rcases hkd with rfl | rfl <;> rfl
  have hk3 : decide (kd = 1) = false := by rcases hkd with rfl | rfl <;> rfl
  have HP : ∀ wa : World, Calls Try.prog 53 #[.agg #[.int .i64 kd, .int .i64 0, .int .i64 0, .int .i64 1, .int .i64 0, .int .i64 0, .int .i64 (-1)]] wa fun e w' => e = .returned (.tuple #[.slice none 0 0, .int .i64 1]) ∧ Fr none_ wa w' := fun wa => wput_bad ⟨kd, 0, 0, 1, 0, 0, (-1)⟩ wa hm
  have HM : ∀ wa : World, Calls Try.prog 61 #[.agg #[.int .i64 kd, .int .i64 0, .int .i64 0, .int .i64 1, .int .i64 0, .int .i64 0, .int .i64 (-1)]] wa fun e w' => e = .returned (.bool false) ∧ Fr none_ wa w' := fun wa => by have := may_any ⟨kd, 0, 0, 1, 0, 0, (-1)⟩ wa; rw [hm] at this; exact this
  have HR : ∀ wa : World, Calls Try.prog 62 #[.agg #[.int .i64 kd, .int .i64 0, .int .i64 0, .int .i64 1, .int .i64 0, .int .i64 0, .int .i64 (-1)]] wa fun e w' => e = .returned (.bool false) ∧ Fr none_ wa w' := fun wa => by have := rmay_any ⟨kd, 0, 0, 1, 0, 0, (-1)⟩ wa; rw [hm] at this; exact this
  clear hm hkd
  have hB5 := (((Blk.new w #[.int .i64 kd, .int .i64 0, .int .i64 0, .int .i64 1, .int .i64 0, .int .i64 0, .int .i64 (-1)] 68).alloc (.cells #[.int .i64 3, .int .i64 15, .int .i64 60000, .int .i64 1099511627776, .int .i64 1099511627776, .int .i64 1099511627776, .int .i64 3] 2)).alloc (.cells #[.int .i64 1, .int .i64 0, .int .i64 0, .int .i64 1, .int .i64 0, .int .i64 0, .int .i64 0] 2)).alloc (.cells #[.int .i64 0, .int .i64 (-1), .int .i64 3, .int .i64 4] 2)
  have hF5 := ((((Fr.refl none_ w).alloc (.cells #[.int .i64 kd, .int .i64 0, .int .i64 0, .int .i64 1, .int .i64 0, .int .i64 0, .int .i64 (-1)] 68)).alloc (.cells #[.int .i64 3, .int .i64 15, .int .i64 60000, .int .i64 1099511627776, .int .i64 1099511627776, .int .i64 1099511627776, .int .i64 3] 2)).alloc (.cells #[.int .i64 1, .int .i64 0, .int .i64 0, .int .i64 1, .int .i64 0, .int .i64 0, .int .i64 0] 2)).alloc (.cells #[.int .i64 0, .int .i64 (-1), .int .i64 3, .int .i64 4] 2)
  go_enter Try.func17, Try.ntmps17
  go_wp2_with fail
  generalize ((((w.alloc (.cells #[.int .i64 kd, .int .i64 0, .int .i64 0, .int .i64 1, .int .i64 0, .int .i64 0, .int .i64 (-1)] 68)).alloc (.cells #[.int .i64 3, .int .i64 15, .int .i64 60000, .int .i64 1099511627776, .int .i64 1099511627776, .int .i64 1099511627776, .int .i64 3] 2)).alloc (.cells #[.int .i64 1, .int .i64 0, .int .i64 0, .int .i64 1, .int .i64 0, .int .i64 0, .int .i64 0] 2)).alloc (.cells #[.int .i64 0, .int .i64 (-1), .int .i64 3, .int .i64 4] 2)) = w5 at *
  refine (HP w5).mono ?_
  rintro e w6 ⟨rfl, hf6⟩
  go_wp2_with fail
  refine (told4_any _).mono ?_
  rintro e w7 ⟨rfl, hf7⟩
  obtain ⟨a0, a1, a2, a3, a4, a5, a6⟩ := hB5.at7 (hf6.trans hf7)
  go_wp2_with fail
  clear a0 a1 a2 a3 a4 a5 a6
  refine (HM w7).mono ?_
  rintro e w8 ⟨rfl, hf8⟩
  obtain ⟨a0, a1, a2, a3, a4, a5, a6⟩ := hB5.at7 ((hf6.trans hf7).trans hf8)
  go_wp2_with fail
  refine (HR w8).mono ?_
  rintro e w9 ⟨rfl, hf9⟩
  go_wp2
  go_ret
  exact ⟨rfl, hF5.trans (((hf6.trans hf7).trans hf8).trans hf9)⟩

set_option maxRecDepth 100000 in
set_option maxHeartbeats 3200000 in
theorem bounds_6_2_0 (w : World) (part edge kind kd : Int) (hk : (IntKind.u64.wrap part).tmod 7 = 6) (he : (IntKind.u64.wrap edge).tmod 4 = 2) (q : Nat) (hqa : (IntKind.u64.wrap kind).tmod 3 = (q : Int)) (hqi : IntKind.i64.wrap (q : Int) = q) (hq : IntKind.i64.wrap (1 + (q : Int)) = kd) (hkd : kd = 1) :
    Calls Try.prog 17 #[.int .i64 part, .int .i64 edge, .int .i64 kind] w fun e w' => e = .returned (.bool true) ∧ Fr none_ w w' := by
  have hm : mayM ⟨kd, 0, 0, 1, 0, 0, 3⟩ = true := by subst hkd; decide
  have hk1 : (kd == 1) = true := by subst hkd; rfl
  have hk2 : (kd != 1) = false := by subst hkd; rfl
  have hk3 : decide (kd = 1) = true := by subst hkd; rfl
  have HP : ∀ wa : World, Calls Try.prog 53 #[.agg #[.int .i64 kd, .int .i64 0, .int .i64 0, .int .i64 1, .int .i64 0, .int .i64 0, .int .i64 3]] wa fun e w' => ∃ v, e = .returned (.tuple #[v, .int .i64 0]) ∧ Own w' wa.heap.size 5 v ((msgB ⟨kd, 0, 0, 1, 0, 0, 3⟩).map bv) ∧ Fr none_ wa w' := fun wa => wput_ok ⟨kd, 0, 0, 1, 0, 0, 3⟩ wa hm
  have HM : ∀ wa : World, Calls Try.prog 61 #[.agg #[.int .i64 kd, .int .i64 0, .int .i64 0, .int .i64 1, .int .i64 0, .int .i64 0, .int .i64 3]] wa fun e w' => e = .returned (.bool true) ∧ Fr none_ wa w' := fun wa => by have := may_any ⟨kd, 0, 0, 1, 0, 0, 3⟩ wa; rw [hm] at this; exact this
  have HR : ∀ wa : World, Calls Try.prog 62 #[.agg #[.int .i64 kd, .int .i64 0, .int .i64 0, .int .i64 1, .int .i64 0, .int .i64 0, .int .i64 3]] wa fun e w' => e = .returned (.bool true) ∧ Fr none_ wa w' := fun wa => by have := rmay_any ⟨kd, 0, 0, 1, 0, 0, 3⟩ wa; rw [hm] at this; exact this
  clear hm hkd
  have hB5 := (((Blk.new w #[.int .i64 kd, .int .i64 0, .int .i64 0, .int .i64 1, .int .i64 0, .int .i64 0, .int .i64 3] 68).alloc (.cells #[.int .i64 3, .int .i64 15, .int .i64 60000, .int .i64 1099511627776, .int .i64 1099511627776, .int .i64 1099511627776, .int .i64 3] 2)).alloc (.cells #[.int .i64 1, .int .i64 0, .int .i64 0, .int .i64 1, .int .i64 0, .int .i64 0, .int .i64 0] 2)).alloc (.cells #[.int .i64 0, .int .i64 (-1), .int .i64 3, .int .i64 4] 2)
  have hF5 := ((((Fr.refl none_ w).alloc (.cells #[.int .i64 kd, .int .i64 0, .int .i64 0, .int .i64 1, .int .i64 0, .int .i64 0, .int .i64 3] 68)).alloc (.cells #[.int .i64 3, .int .i64 15, .int .i64 60000, .int .i64 1099511627776, .int .i64 1099511627776, .int .i64 1099511627776, .int .i64 3] 2)).alloc (.cells #[.int .i64 1, .int .i64 0, .int .i64 0, .int .i64 1, .int .i64 0, .int .i64 0, .int .i64 0] 2)).alloc (.cells #[.int .i64 0, .int .i64 (-1), .int .i64 3, .int .i64 4] 2)
  go_enter Try.func17, Try.ntmps17
  go_wp2_with fail
  generalize ((((w.alloc (.cells #[.int .i64 kd, .int .i64 0, .int .i64 0, .int .i64 1, .int .i64 0, .int .i64 0, .int .i64 3] 68)).alloc (.cells #[.int .i64 3, .int .i64 15, .int .i64 60000, .int .i64 1099511627776, .int .i64 1099511627776, .int .i64 1099511627776, .int .i64 3] 2)).alloc (.cells #[.int .i64 1, .int .i64 0, .int .i64 0, .int .i64 1, .int .i64 0, .int .i64 0, .int .i64 0] 2)).alloc (.cells #[.int .i64 0, .int .i64 (-1), .int .i64 3, .int .i64 4] 2)) = w5 at *
  refine (HP w5).mono ?_
  rintro e w6 ⟨vp, rfl, _, hf6⟩
  go_wp2_with fail
  refine (told4_any _).mono ?_
  rintro e w7 ⟨rfl, hf7⟩
  obtain ⟨a0, a1, a2, a3, a4, a5, a6⟩ := hB5.at7 (hf6.trans hf7)
  go_wp2_with fail
  clear a0 a1 a2 a3 a4 a5 a6
  refine (HM w7).mono ?_
  rintro e w8 ⟨rfl, hf8⟩
  obtain ⟨a0, a1, a2, a3, a4, a5, a6⟩ := hB5.at7 ((hf6.trans hf7).trans hf8)
  go_wp2_with fail
  refine (HR w8).mono ?_
  rintro e w9 ⟨rfl, hf9⟩
  go_wp2
  go_ret
  exact ⟨rfl, hF5.trans (((hf6.trans hf7).trans hf8).trans hf9)⟩

set_option maxRecDepth 100000 in
set_option maxHeartbeats 3200000 in
theorem bounds_6_2_1 (w : World) (part edge kind kd : Int) (hk : (IntKind.u64.wrap part).tmod 7 = 6) (he : (IntKind.u64.wrap edge).tmod 4 = 2) (q : Nat) (hqa : (IntKind.u64.wrap kind).tmod 3 = (q : Int)) (hqi : IntKind.i64.wrap (q : Int) = q) (hq : IntKind.i64.wrap (1 + (q : Int)) = kd) (hkd : kd = 2 ∨ kd = 3) :
    Calls Try.prog 17 #[.int .i64 part, .int .i64 edge, .int .i64 kind] w fun e w' => e = .returned (.bool true) ∧ Fr none_ w w' := by
  have hm : mayM ⟨kd, 0, 0, 1, 0, 0, 3⟩ = false := by rcases hkd with rfl | rfl <;> decide
  have hk1 : (kd == 1) = false := by rcases hkd with rfl | rfl <;> rfl
  have hk2 : (kd != 1) = true := by rcases hkd with rfl | rfl <;> rfl
  have hk3 : decide (kd = 1) = false := by rcases hkd with rfl | rfl <;> rfl
  have HP : ∀ wa : World, Calls Try.prog 53 #[.agg #[.int .i64 kd, .int .i64 0, .int .i64 0, .int .i64 1, .int .i64 0, .int .i64 0, .int .i64 3]] wa fun e w' => e = .returned (.tuple #[.slice none 0 0, .int .i64 1]) ∧ Fr none_ wa w' := fun wa => wput_bad ⟨kd, 0, 0, 1, 0, 0, 3⟩ wa hm
  have HM : ∀ wa : World, Calls Try.prog 61 #[.agg #[.int .i64 kd, .int .i64 0, .int .i64 0, .int .i64 1, .int .i64 0, .int .i64 0, .int .i64 3]] wa fun e w' => e = .returned (.bool false) ∧ Fr none_ wa w' := fun wa => by have := may_any ⟨kd, 0, 0, 1, 0, 0, 3⟩ wa; rw [hm] at this; exact this
  have HR : ∀ wa : World, Calls Try.prog 62 #[.agg #[.int .i64 kd, .int .i64 0, .int .i64 0, .int .i64 1, .int .i64 0, .int .i64 0, .int .i64 3]] wa fun e w' => e = .returned (.bool false) ∧ Fr none_ wa w' := fun wa => by have := rmay_any ⟨kd, 0, 0, 1, 0, 0, 3⟩ wa; rw [hm] at this; exact this
  clear hm hkd
  have hB5 := (((Blk.new w #[.int .i64 kd, .int .i64 0, .int .i64 0, .int .i64 1, .int .i64 0, .int .i64 0, .int .i64 3] 68).alloc (.cells #[.int .i64 3, .int .i64 15, .int .i64 60000, .int .i64 1099511627776, .int .i64 1099511627776, .int .i64 1099511627776, .int .i64 3] 2)).alloc (.cells #[.int .i64 1, .int .i64 0, .int .i64 0, .int .i64 1, .int .i64 0, .int .i64 0, .int .i64 0] 2)).alloc (.cells #[.int .i64 0, .int .i64 (-1), .int .i64 3, .int .i64 4] 2)
  have hF5 := ((((Fr.refl none_ w).alloc (.cells #[.int .i64 kd, .int .i64 0, .int .i64 0, .int .i64 1, .int .i64 0, .int .i64 0, .int .i64 3] 68)).alloc (.cells #[.int .i64 3, .int .i64 15, .int .i64 60000, .int .i64 1099511627776, .int .i64 1099511627776, .int .i64 1099511627776, .int .i64 3] 2)).alloc (.cells #[.int .i64 1, .int .i64 0, .int .i64 0, .int .i64 1, .int .i64 0, .int .i64 0, .int .i64 0] 2)).alloc (.cells #[.int .i64 0, .int .i64 (-1), .int .i64 3, .int .i64 4] 2)
  go_enter Try.func17, Try.ntmps17
  go_wp2_with fail
  generalize ((((w.alloc (.cells #[.int .i64 kd, .int .i64 0, .int .i64 0, .int .i64 1, .int .i64 0, .int .i64 0, .int .i64 3] 68)).alloc (.cells #[.int .i64 3, .int .i64 15, .int .i64 60000, .int .i64 1099511627776, .int .i64 1099511627776, .int .i64 1099511627776, .int .i64 3] 2)).alloc (.cells #[.int .i64 1, .int .i64 0, .int .i64 0, .int .i64 1, .int .i64 0, .int .i64 0, .int .i64 0] 2)).alloc (.cells #[.int .i64 0, .int .i64 (-1), .int .i64 3, .int .i64 4] 2)) = w5 at *
  refine (HP w5).mono ?_
  rintro e w6 ⟨rfl, hf6⟩
  go_wp2_with fail
  refine (told4_any _).mono ?_
  rintro e w7 ⟨rfl, hf7⟩
  obtain ⟨a0, a1, a2, a3, a4, a5, a6⟩ := hB5.at7 (hf6.trans hf7)
  go_wp2_with fail
  clear a0 a1 a2 a3 a4 a5 a6
  refine (HM w7).mono ?_
  rintro e w8 ⟨rfl, hf8⟩
  obtain ⟨a0, a1, a2, a3, a4, a5, a6⟩ := hB5.at7 ((hf6.trans hf7).trans hf8)
  go_wp2_with fail
  refine (HR w8).mono ?_
  rintro e w9 ⟨rfl, hf9⟩
  go_wp2
  go_ret
  exact ⟨rfl, hF5.trans (((hf6.trans hf7).trans hf8).trans hf9)⟩

set_option maxRecDepth 100000 in
set_option maxHeartbeats 3200000 in
theorem bounds_6_3_0 (w : World) (part edge kind kd : Int) (hk : (IntKind.u64.wrap part).tmod 7 = 6) (he : (IntKind.u64.wrap edge).tmod 4 = 3) (q : Nat) (hqa : (IntKind.u64.wrap kind).tmod 3 = (q : Int)) (hqi : IntKind.i64.wrap (q : Int) = q) (hq : IntKind.i64.wrap (1 + (q : Int)) = kd) (hkd : kd = 1) :
    Calls Try.prog 17 #[.int .i64 part, .int .i64 edge, .int .i64 kind] w fun e w' => e = .returned (.bool true) ∧ Fr none_ w w' := by
  have hm : mayM ⟨kd, 0, 0, 1, 0, 0, 4⟩ = false := by subst hkd; decide
  have hk1 : (kd == 1) = true := by subst hkd; rfl
  have hk2 : (kd != 1) = false := by subst hkd; rfl
  have hk3 : decide (kd = 1) = true := by subst hkd; rfl
  have HP : ∀ wa : World, Calls Try.prog 53 #[.agg #[.int .i64 kd, .int .i64 0, .int .i64 0, .int .i64 1, .int .i64 0, .int .i64 0, .int .i64 4]] wa fun e w' => e = .returned (.tuple #[.slice none 0 0, .int .i64 1]) ∧ Fr none_ wa w' := fun wa => wput_bad ⟨kd, 0, 0, 1, 0, 0, 4⟩ wa hm
  have HM : ∀ wa : World, Calls Try.prog 61 #[.agg #[.int .i64 kd, .int .i64 0, .int .i64 0, .int .i64 1, .int .i64 0, .int .i64 0, .int .i64 4]] wa fun e w' => e = .returned (.bool false) ∧ Fr none_ wa w' := fun wa => by have := may_any ⟨kd, 0, 0, 1, 0, 0, 4⟩ wa; rw [hm] at this; exact this
  have HR : ∀ wa : World, Calls Try.prog 62 #[.agg #[.int .i64 kd, .int .i64 0, .int .i64 0, .int .i64 1, .int .i64 0, .int .i64 0, .int .i64 4]] wa fun e w' => e = .returned (.bool false) ∧ Fr none_ wa w' := fun wa => by have := rmay_any ⟨kd, 0, 0, 1, 0, 0, 4⟩ wa; rw [hm] at this; exact this
  clear hm hkd
  have hB5 := (((Blk.new w #[.int .i64 kd, .int .i64 0, .int .i64 0, .int .i64 1, .int .i64 0, .int .i64 0, .int .i64 4] 68).alloc (.cells #[.int .i64 3, .int .i64 15, .int .i64 60000, .int .i64 1099511627776, .int .i64 1099511627776, .int .i64 1099511627776, .int .i64 3] 2)).alloc (.cells #[.int .i64 1, .int .i64 0, .int .i64 0, .int .i64 1, .int .i64 0, .int .i64 0, .int .i64 0] 2)).alloc (.cells #[.int .i64 0, .int .i64 (-1), .int .i64 3, .int .i64 4] 2)
  have hF5 := ((((Fr.refl none_ w).alloc (.cells #[.int .i64 kd, .int .i64 0, .int .i64 0, .int .i64 1, .int .i64 0, .int .i64 0, .int .i64 4] 68)).alloc (.cells #[.int .i64 3, .int .i64 15, .int .i64 60000, .int .i64 1099511627776, .int .i64 1099511627776, .int .i64 1099511627776, .int .i64 3] 2)).alloc (.cells #[.int .i64 1, .int .i64 0, .int .i64 0, .int .i64 1, .int .i64 0, .int .i64 0, .int .i64 0] 2)).alloc (.cells #[.int .i64 0, .int .i64 (-1), .int .i64 3, .int .i64 4] 2)
  go_enter Try.func17, Try.ntmps17
  go_wp2_with fail
  generalize ((((w.alloc (.cells #[.int .i64 kd, .int .i64 0, .int .i64 0, .int .i64 1, .int .i64 0, .int .i64 0, .int .i64 4] 68)).alloc (.cells #[.int .i64 3, .int .i64 15, .int .i64 60000, .int .i64 1099511627776, .int .i64 1099511627776, .int .i64 1099511627776, .int .i64 3] 2)).alloc (.cells #[.int .i64 1, .int .i64 0, .int .i64 0, .int .i64 1, .int .i64 0, .int .i64 0, .int .i64 0] 2)).alloc (.cells #[.int .i64 0, .int .i64 (-1), .int .i64 3, .int .i64 4] 2)) = w5 at *
  refine (HP w5).mono ?_
  rintro e w6 ⟨rfl, hf6⟩
  go_wp2_with fail
  refine (told4_any _).mono ?_
  rintro e w7 ⟨rfl, hf7⟩
  obtain ⟨a0, a1, a2, a3, a4, a5, a6⟩ := hB5.at7 (hf6.trans hf7)
  go_wp2_with fail
  clear a0 a1 a2 a3 a4 a5 a6
  refine (HM w7).mono ?_
  rintro e w8 ⟨rfl, hf8⟩
  obtain ⟨a0, a1, a2, a3, a4, a5, a6⟩ := hB5.at7 ((hf6.trans hf7).trans hf8)
  go_wp2_with fail
  refine (HR w8).mono ?_
  rintro e w9 ⟨rfl, hf9⟩
  go_wp2
  go_ret
  exact ⟨rfl, hF5.trans (((hf6.trans hf7).trans hf8).trans hf9)⟩

set_option maxRecDepth 100000 in
set_option maxHeartbeats 3200000 in
theorem bounds_6_3_1 (w : World) (part edge kind kd : Int) (hk : (IntKind.u64.wrap part).tmod 7 = 6) (he : (IntKind.u64.wrap edge).tmod 4 = 3) (q : Nat) (hqa : (IntKind.u64.wrap kind).tmod 3 = (q : Int)) (hqi : IntKind.i64.wrap (q : Int) = q) (hq : IntKind.i64.wrap (1 + (q : Int)) = kd) (hkd : kd = 2 ∨ kd = 3) :
    Calls Try.prog 17 #[.int .i64 part, .int .i64 edge, .int .i64 kind] w fun e w' => e = .returned (.bool true) ∧ Fr none_ w w' := by
  have hm : mayM ⟨kd, 0, 0, 1, 0, 0, 4⟩ = false := by rcases hkd with rfl | rfl <;> decide
  have hk1 : (kd == 1) = false := by rcases hkd with rfl | rfl <;> rfl
  have hk2 : (kd != 1) = true := by rcases hkd with rfl | rfl <;> rfl
  have hk3 : decide (kd = 1) = false := by rcases hkd with rfl | rfl <;> rfl
  have HP : ∀ wa : World, Calls Try.prog 53 #[.agg #[.int .i64 kd, .int .i64 0, .int .i64 0, .int .i64 1, .int .i64 0, .int .i64 0, .int .i64 4]] wa fun e w' => e = .returned (.tuple #[.slice none 0 0, .int .i64 1]) ∧ Fr none_ wa w' := fun wa => wput_bad ⟨kd, 0, 0, 1, 0, 0, 4⟩ wa hm
  have HM : ∀ wa : World, Calls Try.prog 61 #[.agg #[.int .i64 kd, .int .i64 0, .int .i64 0, .int .i64 1, .int .i64 0, .int .i64 0, .int .i64 4]] wa fun e w' => e = .returned (.bool false) ∧ Fr none_ wa w' := fun wa => by have := may_any ⟨kd, 0, 0, 1, 0, 0, 4⟩ wa; rw [hm] at this; exact this
  have HR : ∀ wa : World, Calls Try.prog 62 #[.agg #[.int .i64 kd, .int .i64 0, .int .i64 0, .int .i64 1, .int .i64 0, .int .i64 0, .int .i64 4]] wa fun e w' => e = .returned (.bool false) ∧ Fr none_ wa w' := fun wa => by have := rmay_any ⟨kd, 0, 0, 1, 0, 0, 4⟩ wa; rw [hm] at this; exact this
  clear hm hkd
  have hB5 := (((Blk.new w #[.int .i64 kd, .int .i64 0, .int .i64 0, .int .i64 1, .int .i64 0, .int .i64 0, .int .i64 4] 68).alloc (.cells #[.int .i64 3, .int .i64 15, .int .i64 60000, .int .i64 1099511627776, .int .i64 1099511627776, .int .i64 1099511627776, .int .i64 3] 2)).alloc (.cells #[.int .i64 1, .int .i64 0, .int .i64 0, .int .i64 1, .int .i64 0, .int .i64 0, .int .i64 0] 2)).alloc (.cells #[.int .i64 0, .int .i64 (-1), .int .i64 3, .int .i64 4] 2)
  have hF5 := ((((Fr.refl none_ w).alloc (.cells #[.int .i64 kd, .int .i64 0, .int .i64 0, .int .i64 1, .int .i64 0, .int .i64 0, .int .i64 4] 68)).alloc (.cells #[.int .i64 3, .int .i64 15, .int .i64 60000, .int .i64 1099511627776, .int .i64 1099511627776, .int .i64 1099511627776, .int .i64 3] 2)).alloc (.cells #[.int .i64 1, .int .i64 0, .int .i64 0, .int .i64 1, .int .i64 0, .int .i64 0, .int .i64 0] 2)).alloc (.cells #[.int .i64 0, .int .i64 (-1), .int .i64 3, .int .i64 4] 2)
  go_enter Try.func17, Try.ntmps17
  go_wp2_with fail
  generalize ((((w.alloc (.cells #[.int .i64 kd, .int .i64 0, .int .i64 0, .int .i64 1, .int .i64 0, .int .i64 0, .int .i64 4] 68)).alloc (.cells #[.int .i64 3, .int .i64 15, .int .i64 60000, .int .i64 1099511627776, .int .i64 1099511627776, .int .i64 1099511627776, .int .i64 3] 2)).alloc (.cells #[.int .i64 1, .int .i64 0, .int .i64 0, .int .i64 1, .int .i64 0, .int .i64 0, .int .i64 0] 2)).alloc (.cells #[.int .i64 0, .int .i64 (-1), .int .i64 3, .int .i64 4] 2)) = w5 at *
  refine (HP w5).mono ?_
  rintro e w6 ⟨rfl, hf6⟩
  go_wp2_with fail
  refine (told4_any _).mono ?_
  rintro e w7 ⟨rfl, hf7⟩
  obtain ⟨a0, a1, a2, a3, a4, a5, a6⟩ := hB5.at7 (hf6.trans hf7)
  go_wp2_with fail
  clear a0 a1 a2 a3 a4 a5 a6
  refine (HM w7).mono ?_
  rintro e w8 ⟨rfl, hf8⟩
  obtain ⟨a0, a1, a2, a3, a4, a5, a6⟩ := hB5.at7 ((hf6.trans hf7).trans hf8)
  go_wp2_with fail
  refine (HR w8).mono ?_
  rintro e w9 ⟨rfl, hf9⟩
  go_wp2
  go_ret
  exact ⟨rfl, hF5.trans (((hf6.trans hf7).trans hf8).trans hf9)⟩
end Go.Proofs.Ytandenkoejbloaa
