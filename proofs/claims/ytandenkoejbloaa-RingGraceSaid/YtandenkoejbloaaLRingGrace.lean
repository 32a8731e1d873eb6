/- For every input the law quorumitelaw5.RingGrace returns true: behind a rotation the old key is there for just so many epochs, the new one at once; all older ones never more. Conditions: none. -/
import Derived.Test.YtandenkoejbloaaTold5
import Derived.Test.YtandenkoejbloaaFacts
import Derived.Test.YtandenkoejbloaaRegS
import Derived.Test.YtandenkoejbloaaMore
import Derived.Test.YtandenkoejbloaaOpen
namespace Go.Proofs.Ytandenkoejbloaa
open Go Go.RowKit
/-- Two collectors; the first one's j-th generation, since t. -/
def stG (j : Nat) (t : Int) : Gs := [((j : Int), if j = 0 then 0 else t), (0, 0)]
theorem gat_st0 (j : Nat) (t : Int) : gat (stG j t) 0 = some ((j : Int), if j = 0 then 0 else t) := rfl
theorem gat_st1 (j : Nat) (t : Int) : gat (stG j t) 1 = some (0, 0) := rfl

set_option maxRecDepth 100000 in
set_option maxHeartbeats 30000000 in
theorem walk_RingGrace (w : World) (seed : W) (x1 : Int) (_ : -9223372036854775808 ≤ x1) (_ : x1 ≤ 9223372036854775807) (x2 : Int) (_ : -9223372036854775808 ≤ x2) (_ : x2 ≤ 9223372036854775807) (x3 : Int) (_ : -9223372036854775808 ≤ x3) (_ : x3 ≤ 9223372036854775807) (x4 : Int) (_ : -9223372036854775808 ≤ x4) (_ : x4 ≤ 9223372036854775807) :
    Calls Try.prog 21 #[.int .u64 (u seed), .int .i64 x1, .int .i64 x2, .int .i64 x3, .int .i64 x4] w fun e w' => e = .returned (.bool true) ∧ Fr none_ w w' := by
  obtain ⟨m1, hm1, hmod1⟩ := modN 100 (by decide) x1
  obtain ⟨m2, hm2, hmod2⟩ := modN 5 (by decide) x4
  obtain ⟨t, ht, hmod3⟩ := modN 1000000 (by decide) x2
  obtain ⟨x, hx, hmod4⟩ := modN 200 (by decide) x3
  have hmod1 : (IntKind.u64.wrap x1).tmod 100 = (m1 : Int) := hmod1
  have hmod2 : (IntKind.u64.wrap x4).tmod 5 = (m2 : Int) := hmod2
  have hmod3 : (IntKind.u64.wrap x2).tmod 1000000 = (t : Int) := hmod3
  have hmod4 : (IntKind.u64.wrap x3).tmod 200 = (x : Int) := hmod4
  have e1 : IntKind.i64.wrap (m1 : Int) = m1 := IntWalk.i64_in _ (by omega)
  have e2 : IntKind.i64.wrap (m2 : Int) = m2 := IntWalk.i64_in _ (by omega)
  have e3 : IntKind.i64.wrap (t : Int) = t := IntWalk.i64_in _ (by omega)
  have e4 : IntKind.i64.wrap (x : Int) = x := IntWalk.i64_in _ (by omega)
  obtain ⟨G, hG⟩ : ∃ G : Int, G = 1 + (m1 : Int) := ⟨_, rfl⟩
  obtain ⟨k, hk⟩ : ∃ k : Nat, (k : Int) = 1 + (m2 : Int) := ⟨1 + m2, by omega⟩
  obtain ⟨tx, htx⟩ : ∃ tx : Int, tx = (t : Int) + (x : Int) := ⟨_, rfl⟩
  obtain ⟨k1, hk1⟩ : ∃ k1 : Int, k1 = (k : Int) - 1 := ⟨_, rfl⟩
  obtain ⟨k2, hk2⟩ : ∃ k2 : Int, k2 = (k : Int) + 1 := ⟨_, rfl⟩
  obtain ⟨k3, hk3⟩ : ∃ k3 : Int, k3 = (k : Int) - 2 := ⟨_, rfl⟩
  have a1 : IntKind.i64.wrap (1 + (m1 : Int)) = G := (IntWalk.i64_in _ (by omega)).trans hG.symm
  have a2 : IntKind.i64.wrap (1 + (m2 : Int)) = k := (IntWalk.i64_in _ (by omega)).trans hk.symm
  have a3 : IntKind.i64.wrap ((t : Int) + (x : Int)) = tx := (IntWalk.i64_in _ (by omega)).trans htx.symm
  have a4 : IntKind.i64.wrap ((k : Int) - 1) = k1 := (IntWalk.i64_in _ (by omega)).trans hk1.symm
  have a5 : IntKind.i64.wrap ((k : Int) + 1) = k2 := (IntWalk.i64_in _ (by omega)).trans hk2.symm
  have a6 : IntKind.i64.wrap ((k : Int) - 2) = k3 := (IntWalk.i64_in _ (by omega)).trans hk3.symm
  have HN : ∀ wa : World, Calls Try.prog 63 #[.int .u64 (u seed), .int .i64 2, .int .i64 G] wa fun e w' => ∃ b lb, e = .returned (.pointer (some ⟨b, 0, none⟩)) ∧ wa.heap.size ≤ b ∧ wa.heap.size ≤ lb ∧ RgAt w' b lb seed G (stG 0 t) ∧ Fr none_ wa w' := fun wa => rnew_ok seed 2 G wa (by unfold badR; omega)
  have HR : ∀ (j : Nat), j < k → ∀ (wa : World) (b lb : Nat), RgAt wa b lb seed G (stG j t) → Calls Try.prog 66 #[.pointer (some ⟨b, 0, none⟩), .int .i64 0, .int .i64 ((j : Int) + 1), .int .i64 t] wa fun e w' => e = .returned (.int .i64 0) ∧ RgAt w' b lb seed G (stG (j + 1) t) ∧ Fr (two b lb) wa w' := fun j hj wa b lb h => by
    have hc : rotC (stG j t) 0 ((j : Int) + 1) t = 0 := (rotC_some (gat_st0 j t) _ _).2.2 ⟨rfl, by omega, by omega, by omega⟩
    have hp : putG (stG j t) 0 0 ((j : Int) + 1) t = stG (j + 1) t := by
      show [((j : Int) + 1, (t : Int)), (0, 0)] = [(((j + 1 : Nat) : Int), if j + 1 = 0 then 0 else (t : Int)), (0, 0)]
      simp
    have := rrot_any h 0 ((j : Int) + 1) t
    rw [hc, hp] at this
    exact this
  have hgk : gat (stG k t) 0 = some ((k : Int), (t : Int)) := by rw [gat_st0, if_neg (by omega)]
  obtain ⟨fc, hfc⟩ : ∃ fc : Int, fc = if (x : Int) < G then 0 else 4 := ⟨_, rfl⟩
  have hfc2 : ((x : Int) < G ∧ fc = 0) ∨ (¬ (x : Int) < G ∧ fc = 4) := by
    by_cases h : (x : Int) < G
    · exact .inl ⟨h, by rw [hfc, if_pos h]⟩
    · exact .inr ⟨h, by rw [hfc, if_neg h]⟩
  have hkA : keyC (stG k t) G 0 k tx = 0 := (keyC_some hgk _ _ _).1 (.inl rfl)
  have hkB : keyC (stG k t) G 0 k1 tx = fc := by
    rcases hfc2 with ⟨h, hf⟩ | ⟨h, hf⟩
    · rw [hf]; exact (keyC_some hgk _ _ _).1 (.inr (by dsimp only; omega))
    · rw [hf]; exact (keyC_some hgk _ _ _).2 (by dsimp only; omega)
  have hkC : keyC (stG k t) G 0 k2 tx = 4 := (keyC_some hgk _ _ _).2 (by dsimp only; omega)
  have hkD : keyC (stG k t) G 0 k3 tx = 4 := (keyC_some hgk _ _ _).2 (by dsimp only; omega)
  have hkE : keyC (stG k t) G 1 0 tx = 0 := (keyC_some (gat_st1 k t) _ _ _).1 (.inl rfl)
  have HK1 : ∀ (wa : World) (b lb : Nat), RgAt wa b lb seed G (stG k t) → Calls Try.prog 70 #[.pointer (some ⟨b, 0, none⟩), .int .i64 0, .int .i64 (k : Int), .int .i64 tx] wa fun e w' => e = .returned (.tuple #[keyv (ofW seed 0 (k : Int)), .int .i64 0]) ∧ RgAt w' b lb seed G (stG k t) ∧ Fr (two b lb) wa w' := fun wa b lb h => by have := rkey_any h 0 (k : Int) tx; rw [hkA] at this; exact this
  have HK2 : ∀ (wa : World) (b lb : Nat), RgAt wa b lb seed G (stG k t) → Calls Try.prog 70 #[.pointer (some ⟨b, 0, none⟩), .int .i64 0, .int .i64 k1, .int .i64 tx] wa fun e w' => e = .returned (.tuple #[keyv (keyK fc seed 0 k1), .int .i64 fc]) ∧ RgAt w' b lb seed G (stG k t) ∧ Fr (two b lb) wa w' := fun wa b lb h => by have := rkey_any h 0 k1 tx; rw [hkB] at this; exact this
  have HK3 : ∀ (wa : World) (b lb : Nat), RgAt wa b lb seed G (stG k t) → Calls Try.prog 70 #[.pointer (some ⟨b, 0, none⟩), .int .i64 0, .int .i64 k2, .int .i64 tx] wa fun e w' => e = .returned (.tuple #[keyv ((0, 0)), .int .i64 4]) ∧ RgAt w' b lb seed G (stG k t) ∧ Fr (two b lb) wa w' := fun wa b lb h => by have := rkey_any h 0 k2 tx; rw [hkC] at this; exact this
  have HK4 : ∀ (wa : World) (b lb : Nat), RgAt wa b lb seed G (stG k t) → Calls Try.prog 70 #[.pointer (some ⟨b, 0, none⟩), .int .i64 0, .int .i64 k3, .int .i64 tx] wa fun e w' => e = .returned (.tuple #[keyv ((0, 0)), .int .i64 4]) ∧ RgAt w' b lb seed G (stG k t) ∧ Fr (two b lb) wa w' := fun wa b lb h => by have := rkey_any h 0 k3 tx; rw [hkD] at this; exact this
  have HK5 : ∀ (wa : World) (b lb : Nat), RgAt wa b lb seed G (stG k t) → Calls Try.prog 70 #[.pointer (some ⟨b, 0, none⟩), .int .i64 1, .int .i64 0, .int .i64 tx] wa fun e w' => e = .returned (.tuple #[keyv (ofW seed 1 0), .int .i64 0]) ∧ RgAt w' b lb seed G (stG k t) ∧ Fr (two b lb) wa w' := fun wa b lb h => by have := rkey_any h 1 0 tx; rw [hkE] at this; exact this
  have HT : ∀ wa : World, Calls Try.prog 65 #[] wa fun e w' => e = .returned (.bool true) ∧ Fr none_ wa w' := told5_any
  have HO1 : ∀ wa : World, Calls Try.prog 49 #[.int .u64 (u seed), .int .i64 0, .int .i64 (k : Int)] wa fun e w' => e = .returned (keyv (ofW seed 0 (k : Int))) ∧ Fr none_ wa w' := fun wa => of_any seed 0 k wa
  have HO2 : ∀ wa : World, Calls Try.prog 49 #[.int .u64 (u seed), .int .i64 0, .int .i64 k1] wa fun e w' => e = .returned (keyv (ofW seed 0 k1)) ∧ Fr none_ wa w' := fun wa => of_any seed 0 k1 wa
  have hkk : fc = 0 → keyK fc seed 0 k1 = ofW seed 0 k1 := fun h => by rw [h, keyK_ok]
  generalize ofW seed 0 (k : Int) = q1 at *
  generalize ofW seed 0 k1 = q3 at *
  generalize ofW seed 1 0 = q5 at *
  generalize keyK fc seed 0 k1 = q2 at *
  have HKB := Lib.hid (show (1 ≤ k ∧ k ≤ 5) ∧ (((x : Int) < G ∧ fc = 0) ∨ (¬ (x : Int) < G ∧ fc = 4)) from ⟨by omega, hfc2⟩)
  have HKK := Lib.hid hkk
  clear hG hk htx hk1 hk2 hk3 hgk hfc hfc2 hkA hkB hkC hkD hkE hkk
  unfold keyv at *
  go_enter Try.func21, Try.ntmps21
  go_wp2_with fail
  refine (HN _).mono ?_
  rintro e w1 ⟨b, lb, rfl, hb, hlb, hA, hF⟩
  have h2 := none_of_two hb hlb
  clear HN hb hlb
  have HA := Lib.hid hA
  have HF := Lib.hid hF
  clear hA hF
  go_wp2_with fail
  go_loopw [16] (fun i wr => ∃ j : Nat, j ≤ k ∧ i = .int .i64 ((j : Int) + 1) ∧ RgAt wr b lb seed G (stG j t) ∧ Fr none_ w wr) (fun i _ => k + 1 - (intOf i).toNat)
  case atStart => exact ⟨0, Nat.zero_le _, rfl, HA.out, HF.out⟩
  case round =>
    obtain ⟨j, hj, rfl, hA, hF⟩ := hrel
    clear HA HF
    by_cases hlt : j < k
    · have d1 : decide ((j : Int) + 1 ≤ (k : Int)) = true := by simp; omega
      have hw1 : IntKind.i64.wrap ((j : Int) + 1 + 1) = (j : Int) + 1 + 1 := IntWalk.i64_in _ (by have := HKB.out; omega)
      have HRj := HR j hlt
      clear HR
      generalize hji : (j : Int) + 1 = ji at *
      go_wp2_with fail
      refine (HRj _ b lb hA).mono ?_
      rintro e w2 ⟨rfl, hA2, hf2⟩
      have HA2 := Lib.hid hA2
      have HF2 := Lib.hid (hF.step hf2 h2)
      clear hA hF hA2 hf2
      go_wp2_with fail
      go_roundw
      case rel => exact ⟨j + 1, by omega, by subst hji; simp, HA2.out, HF2.out⟩
      case measure => subst hji; simp [intOf]; omega
    · obtain rfl : j = k := by omega
      have d1 : decide ((j : Int) + 1 ≤ (j : Int)) = false := by simp; omega
      have hne : b < wr.heap.size ∧ lb < wr.heap.size := by
        obtain ⟨_, _, _, _, _, a, _, c⟩ := hA
        exact ⟨c.lt, a.lt⟩
      clear hlt HR hj
      go_wp2_with fail
      refine (HK1 _ b lb hA).mono ?_
      rintro e w3 ⟨rfl, hB, hf⟩
      go_wp2_with fail
      have hx := (Fr.refl none_ w3).alloc (.cells #[.int .u64 (u q1.1), .int .u64 (u q1.2)] 56)
      have hF1 := (hF.step hf h2).trans hx
      have hA1 := hB.kept hx (fun f => f) (fun f => f)
      have hK1 := Blk.new w3 #[.int .u64 (u q1.1), .int .u64 (u q1.2)] 56
      have hbk : w3.heap.size ≠ b ∧ w3.heap.size ≠ lb := by have := hf.size; omega
      replace hne : b < w3.heap.size ∧ lb < w3.heap.size := by have := hf.size; omega
      replace hne : b < (w3.alloc (.cells #[.int .u64 (u q1.1), .int .u64 (u q1.2)] 56)).heap.size ∧ lb < (w3.alloc (.cells #[.int .u64 (u q1.1), .int .u64 (u q1.2)] 56)).heap.size := by have := hx.size; omega
      clear hA hB hf hx hF HK1
      generalize w3.heap.size = bk at *
      generalize w3.alloc (.cells #[.int .u64 (u q1.1), .int .u64 (u q1.2)] 56) = w4 at *
      have hF := hF1; have hA := hA1; have hK := hK1; clear hF1 hA1 hK1
      refine (HK2 _ b lb hA).mono ?_
      rintro e w5 ⟨rfl, hB, hf⟩
      go_wp2_with fail
      have hx := (Fr.refl none_ w5).alloc (.cells #[.int .u64 (u q2.1), .int .u64 (u q2.2)] 56)
      have hF1 := (hF.step hf h2).trans hx
      have hA1 := hB.kept hx (fun f => f) (fun f => f)
      have hK1 := (hK.kept hf (by rintro (h | h); exact hbk.1 h; exact hbk.2 h)).kept hx (fun f => f)
      have hL1 := Blk.new w5 #[.int .u64 (u q2.1), .int .u64 (u q2.2)] 56
      have hbl : w5.heap.size ≠ b ∧ w5.heap.size ≠ lb := by have := hf.size; omega
      clear hA hB hf hx hF hK HK2
      generalize w5.heap.size = bl at *
      generalize w5.alloc (.cells #[.int .u64 (u q2.1), .int .u64 (u q2.2)] 56) = w6 at *
      have hF := hF1; have hA := hA1; have hK := hK1; clear hF1 hA1 hK1
      have hL := hL1; clear hL1
      refine (HK3 _ b lb hA).mono ?_
      rintro e w7 ⟨rfl, hB, hf⟩
      go_wp2_with fail
      have hx := (Fr.refl none_ w7).alloc (.cells #[.int .u64 (u 0), .int .u64 (u 0)] 56)
      have hF1 := (hF.step hf h2).trans hx
      have hA1 := hB.kept hx (fun f => f) (fun f => f)
      have hK1 := (hK.kept hf (by rintro (h | h); exact hbk.1 h; exact hbk.2 h)).kept hx (fun f => f)
      have hL1 := (hL.kept hf (by rintro (h | h); exact hbl.1 h; exact hbl.2 h)).kept hx (fun f => f)
      clear hA hB hf hx hF hK hL HK3
      generalize w7.alloc (.cells #[.int .u64 (u 0), .int .u64 (u 0)] 56) = w8 at *
      have hF := hF1; have hA := hA1; have hK := hK1; clear hF1 hA1 hK1
      have hL := hL1; clear hL1
      refine (HK4 _ b lb hA).mono ?_
      rintro e w9 ⟨rfl, hB, hf⟩
      go_wp2_with fail
      have hx := (Fr.refl none_ w9).alloc (.cells #[.int .u64 (u 0), .int .u64 (u 0)] 56)
      have hF1 := (hF.step hf h2).trans hx
      have hA1 := hB.kept hx (fun f => f) (fun f => f)
      have hK1 := (hK.kept hf (by rintro (h | h); exact hbk.1 h; exact hbk.2 h)).kept hx (fun f => f)
      have hL1 := (hL.kept hf (by rintro (h | h); exact hbl.1 h; exact hbl.2 h)).kept hx (fun f => f)
      clear hA hB hf hx hF hK hL HK4
      generalize w9.alloc (.cells #[.int .u64 (u 0), .int .u64 (u 0)] 56) = w10 at *
      have hF := hF1; have hA := hA1; have hK := hK1; clear hF1 hA1 hK1
      have hL := hL1; clear hL1
      refine (HK5 _ b lb hA).mono ?_
      rintro e w11 ⟨rfl, hB, hf⟩
      go_wp2_with fail
      have hx := (Fr.refl none_ w11).alloc (.cells #[.int .u64 (u q5.1), .int .u64 (u q5.2)] 56)
      have hF1 := (hF.step hf h2).trans hx
      have hA1 := hB.kept hx (fun f => f) (fun f => f)
      have hK1 := (hK.kept hf (by rintro (h | h); exact hbk.1 h; exact hbk.2 h)).kept hx (fun f => f)
      have hL1 := (hL.kept hf (by rintro (h | h); exact hbl.1 h; exact hbl.2 h)).kept hx (fun f => f)
      clear hA hB hf hx hF hK hL HK5
      generalize w11.alloc (.cells #[.int .u64 (u q5.1), .int .u64 (u q5.2)] 56) = w0 at *
      have HF := Lib.hid hF1
      have HC := Lib.hid (show ∀ w', Fr none_ w0 w' → (w'.cell? ⟨bk, 0, none⟩ = some (.int .u64 (u q1.1)) ∧ w'.cell? ⟨bk, 1, none⟩ = some (.int .u64 (u q1.2))) ∧ (w'.cell? ⟨bl, 0, none⟩ = some (.int .u64 (u q2.1)) ∧ w'.cell? ⟨bl, 1, none⟩ = some (.int .u64 (u q2.2))) from fun w' hf => by
        have r1 := hK1.kept hf (fun f => f)
        have r2 := hL1.kept hf (fun f => f)
        exact ⟨⟨r1.cell_of rfl, r1.cell_of rfl⟩, ⟨r2.cell_of rfl, r2.cell_of rfl⟩⟩)
      clear hF1 hA1 hK1 hL1
      have hn0 : Fr none_ w0 w0.drew := (Fr.refl none_ w0).drew
      rcases HKB.out.2 with ⟨hxg, hfc⟩ | ⟨hxg, hfc⟩
      · have d2 : decide ((x : Int) < G) = true := by simp; omega
        obtain rfl : q2 = q3 := HKK.out hfc
        subst hfc
        refine region_tm [0, 9, 28] [] [0, 1, 2, 6, 10, 18, 32, 32, 32, 416, 608, 1056, 2560, 4096, 12288, 4096, 4096, 102400, 151552, 266240, 528384, 1048576, 3145728, 5242880, 8388608, 8388608, 8388608, 75497472, 176160768, 293601280, 546308096, 1074790400, 2415919104, 4294967296, 12884901888, 21474836480, 38654705664, 68719476736, 206158430208, 343597383680, 618475290624, 1099511627776, 3298534883328, 5497558138880, 17592186044415] [0, 35184372088830, 35184372088829, 35184372088825, 35184372088821, 35184372088815, 35184372088799, 35184372088799, 35184372088799, 0, 35184372088223, 35184372087775, 35184372086783, 35184372084735, 35184372076543, 35184372084735, 35184372084735, 35184371986431, 35184371937279, 35184371822591, 35184371564543, 35184371040255, 35184368943103, 35184366845951, 35184363700223, 35184363700223, 35184363700223, 35184296591359, 0, 35184078487551, 35183825780735, 35183297298431, 35182224605183, 35180077121535, 35171487186943, 35162897252351, 35150012350463, 35115652612095, 34978213658623, 34840774705151, 34634616274943, 34084860461055, 31885837205503, 29686813949951, 26388279066623] [0, 1, 3, 7, 15, 31, 63, 63, 63, 447, 1023, 2047, 4095, 8191, 16383, 8191, 8191, 106495, 262143, 524287, 1048575, 2097151, 4194303, 8388607, 16777215, 16777215, 16777215, 83886079, 251658239, 536870911, 1073741823, 2147483647, 4294967295, 8589934591, 17179869183, 34359738367, 68719476735, 137438953471, 274877906943, 549755813887, 1099511627775, 2199023255551, 4398046511103, 8796093022207, 17592186044415] 35184372088831 (.alt 0 (.quiet 1 (.quiet 2 (.quiet 3 (.quiet 4 (.quiet 5 (.quiet 6 (.quiet 7 (.quiet 8 (.alt 9 (.quiet 10 (.quiet 11 (.quiet 12 (.quiet 13 (.quiet 14 (.quiet 15 (.quiet 16 (.quiet 17 (.quiet 18 (.quiet 19 (.quiet 20 (.quiet 21 (.quiet 22 (.quiet 23 (.quiet 24 (.quiet 25 (.quiet 26 (.quiet 27 (.alt 28 (.quiet 29 (.quiet 30 (.quiet 31 (.quiet 32 (.quiet 33 (.quiet 34 (.quiet 35 (.quiet 36 (.quiet 37 (.quiet 38 (.quiet 39 (.quiet 40 (.quiet 41 (.quiet 42 (.quiet 43 (.quiet 44 .done)))))))))))))))) (.fin)))))))))))))))))))) (.fin)))))))))) (.fin)) (fun w' => (w'.cell? ⟨bk, 0, none⟩ = some (.int .u64 (u q1.1)) ∧ w'.cell? ⟨bk, 1, none⟩ = some (.int .u64 (u q1.2))) ∧ (w'.cell? ⟨bl, 0, none⟩ = some (.int .u64 (u q2.1)) ∧ w'.cell? ⟨bl, 1, none⟩ = some (.int .u64 (u q2.2)))) (by as_aux_lemma => kernel_rfl) (by as_aux_lemma => kernel_rfl) (by as_aux_lemma => kernel_rfl) (by as_aux_lemma => kernel_rfl) (by as_aux_lemma => kernel_rfl) (by as_aux_lemma => kernel_rfl) (by as_aux_lemma => kernel_rfl) (by as_aux_lemma => kernel_rfl) (by first | exact HC.out _ hn3 | exact HC.out _ hn2 | exact HC.out _ hn1 | exact HC.out _ hn0) ?_
        repeat' (first
          | (refine t_float (v := ?_) (a' := ?_) rfl rfl rfl ?_ ?_ ?_
             rotate_left 2
             · (intro w' hU; (try dsimp only at hU); go_simp; with_reducible rfl)
             · (simp only [Act.put, List.setIfInBounds_toArray, List.set_cons_zero, List.set_cons_succ]; rfl))
          | (refine t_bound (v := ?_) (a' := ?_) rfl rfl rfl ?_ ?_ ?_
             rotate_left 2
             · (go_simp; with_reducible rfl)
             · (simp only [Act.put, List.setIfInBounds_toArray, List.set_cons_zero, List.set_cons_succ]; rfl))
          | (refine t_skip (a' := ?_) rfl rfl ?_ ?_
             rotate_left 1
             · (simp only [Act.put, List.setIfInBounds_toArray, List.set_cons_zero, List.set_cons_succ]; rfl))
          | (refine t_actskip (a' := ?_) rfl rfl ?_ (by first | exact HC.out _ hn3 | exact HC.out _ hn2 | exact HC.out _ hn1 | exact HC.out _ hn0) ?_ ?_
             rotate_left 1
             · (simp only [Act.put, List.setIfInBounds_toArray, List.set_cons_zero, List.set_cons_succ]; rfl))
          | exact t_fin
          | (refine t_acts rfl rfl (fun K hK => ?_) ?_
             go_simp; try (go_wp2_with (first | (go_at_call 49; have hq := hn2; refine (HO2 _).mono ?_; clear hq; rintro e w3 ⟨rfl, hf3⟩; have hn3 := hn2.trans hf3; clear hf3) | (go_at_call 49; refine (HO1 _).mono ?_; rintro e w2 ⟨rfl, hf2⟩; have hn2 := hn1.trans hf2; clear hf2) | (go_at_call 65; refine (HT _).mono ?_; rintro e w1 ⟨rfl, hf1⟩; have hn1 := hn0.trans hf1; clear hf1)))
             refine hK.out _ _ (by first | exact HC.out _ hn3 | exact HC.out _ hn2 | exact HC.out _ hn1 | exact HC.out _ hn0) ?_
             clear hK K))
        all_goals (refine t_done ?_)
        all_goals
          go_wp2_with fail
          go_ret
          first | exact ⟨rfl, HF.out.trans hn3⟩ | exact ⟨rfl, HF.out.trans hn2⟩
      · have d2 : decide ((x : Int) < G) = false := by simp; omega
        subst hfc
        refine region_tm [0, 9, 28] [] [0, 1, 2, 6, 10, 18, 32, 32, 32, 416, 608, 1056, 2560, 4096, 12288, 4096, 4096, 102400, 151552, 266240, 528384, 1048576, 3145728, 5242880, 8388608, 8388608, 8388608, 75497472, 176160768, 293601280, 546308096, 1074790400, 2415919104, 4294967296, 12884901888, 21474836480, 38654705664, 68719476736, 206158430208, 343597383680, 618475290624, 1099511627776, 3298534883328, 5497558138880, 17592186044415] [0, 35184372088830, 35184372088829, 35184372088825, 35184372088821, 35184372088815, 35184372088799, 35184372088799, 35184372088799, 0, 35184372088223, 35184372087775, 35184372086783, 35184372084735, 35184372076543, 35184372084735, 35184372084735, 35184371986431, 35184371937279, 35184371822591, 35184371564543, 35184371040255, 35184368943103, 35184366845951, 35184363700223, 35184363700223, 35184363700223, 35184296591359, 0, 35184078487551, 35183825780735, 35183297298431, 35182224605183, 35180077121535, 35171487186943, 35162897252351, 35150012350463, 35115652612095, 34978213658623, 34840774705151, 34634616274943, 34084860461055, 31885837205503, 29686813949951, 26388279066623] [0, 1, 3, 7, 15, 31, 63, 63, 63, 447, 1023, 2047, 4095, 8191, 16383, 8191, 8191, 106495, 262143, 524287, 1048575, 2097151, 4194303, 8388607, 16777215, 16777215, 16777215, 83886079, 251658239, 536870911, 1073741823, 2147483647, 4294967295, 8589934591, 17179869183, 34359738367, 68719476735, 137438953471, 274877906943, 549755813887, 1099511627775, 2199023255551, 4398046511103, 8796093022207, 17592186044415] 35184372088831 (.alt 0 (.quiet 1 (.quiet 2 (.quiet 3 (.quiet 4 (.quiet 5 (.quiet 6 (.quiet 7 (.quiet 8 (.alt 9 (.quiet 10 (.quiet 11 (.quiet 12 (.quiet 13 (.quiet 14 (.quiet 15 (.quiet 16 (.quiet 17 (.quiet 18 (.quiet 19 (.quiet 20 (.quiet 21 (.quiet 22 (.quiet 23 (.quiet 24 (.quiet 25 (.quiet 26 (.quiet 27 (.alt 28 (.quiet 29 (.quiet 30 (.quiet 31 (.quiet 32 (.quiet 33 (.quiet 34 (.quiet 35 (.quiet 36 (.quiet 37 (.quiet 38 (.quiet 39 (.quiet 40 (.quiet 41 (.quiet 42 (.quiet 43 (.quiet 44 .done)))))))))))))))) (.fin)))))))))))))))))))) (.fin)))))))))) (.fin)) (fun w' => (w'.cell? ⟨bk, 0, none⟩ = some (.int .u64 (u q1.1)) ∧ w'.cell? ⟨bk, 1, none⟩ = some (.int .u64 (u q1.2))) ∧ (w'.cell? ⟨bl, 0, none⟩ = some (.int .u64 (u q2.1)) ∧ w'.cell? ⟨bl, 1, none⟩ = some (.int .u64 (u q2.2)))) (by as_aux_lemma => kernel_rfl) (by as_aux_lemma => kernel_rfl) (by as_aux_lemma => kernel_rfl) (by as_aux_lemma => kernel_rfl) (by as_aux_lemma => kernel_rfl) (by as_aux_lemma => kernel_rfl) (by as_aux_lemma => kernel_rfl) (by as_aux_lemma => kernel_rfl) (by first | exact HC.out _ hn3 | exact HC.out _ hn2 | exact HC.out _ hn1 | exact HC.out _ hn0) ?_
        repeat' (first
          | (refine t_float (v := ?_) (a' := ?_) rfl rfl rfl ?_ ?_ ?_
             rotate_left 2
             · (intro w' hU; (try dsimp only at hU); go_simp; with_reducible rfl)
             · (simp only [Act.put, List.setIfInBounds_toArray, List.set_cons_zero, List.set_cons_succ]; rfl))
          | (refine t_bound (v := ?_) (a' := ?_) rfl rfl rfl ?_ ?_ ?_
             rotate_left 2
             · (go_simp; with_reducible rfl)
             · (simp only [Act.put, List.setIfInBounds_toArray, List.set_cons_zero, List.set_cons_succ]; rfl))
          | (refine t_skip (a' := ?_) rfl rfl ?_ ?_
             rotate_left 1
             · (simp only [Act.put, List.setIfInBounds_toArray, List.set_cons_zero, List.set_cons_succ]; rfl))
          | (refine t_actskip (a' := ?_) rfl rfl ?_ (by first | exact HC.out _ hn3 | exact HC.out _ hn2 | exact HC.out _ hn1 | exact HC.out _ hn0) ?_ ?_
             rotate_left 1
             · (simp only [Act.put, List.setIfInBounds_toArray, List.set_cons_zero, List.set_cons_succ]; rfl))
          | exact t_fin
          | (refine t_acts rfl rfl (fun K hK => ?_) ?_
             go_simp; try (go_wp2_with (first | (go_at_call 49; have hq := hn2; refine (HO2 _).mono ?_; clear hq; rintro e w3 ⟨rfl, hf3⟩; have hn3 := hn2.trans hf3; clear hf3) | (go_at_call 49; refine (HO1 _).mono ?_; rintro e w2 ⟨rfl, hf2⟩; have hn2 := hn1.trans hf2; clear hf2) | (go_at_call 65; refine (HT _).mono ?_; rintro e w1 ⟨rfl, hf1⟩; have hn1 := hn0.trans hf1; clear hf1)))
             refine hK.out _ _ (by first | exact HC.out _ hn3 | exact HC.out _ hn2 | exact HC.out _ hn1 | exact HC.out _ hn0) ?_
             clear hK K))
        all_goals (refine t_done ?_)
        all_goals
          go_wp2_with fail
          go_ret
          first | exact ⟨rfl, HF.out.trans hn3⟩ | exact ⟨rfl, HF.out.trans hn2⟩

namespace ringGrace
open Go Go.ChangeShapes Go.WideShapes Go.ChangeAt Go.RowKit
set_option linter.unusedVariables false
set_option maxRecDepth 100000 in
theorem lifted (os : Os) (started : os.Started) (H : Type) (enc : TypeId × Value → H) :
    ReturnsInHanded {} Try.checked os 21 .any (Rows.ringGraceSpec.pre6 enc Try.prog Try.f21 Rows.ringGraceRow.domain false) (Rows.ringGraceSpec.post enc Try.prog Try.f21 false true false false) := by
  refine returnsInHanded_of_change (C := Try.checked) owned started (by kernel_rfl) Try.func21
    (ChangeSpec.witness6 (enc := enc) (C := Try.checked) false ⟨#[], #[.int .u64 0, .int .i64 0, .int .i64 0, .int .i64 0, .int .i64 0], []⟩ 8 (by kernel_rfl) (by kernel_rfl) (by kernel_rfl) (by kernel_rfl)) ?_
  intro W base args ds gs before hval0 hW hcnd _
  have hval : ∀ (j : Nat) t v, Try.f21.params[j]? = some t → args[j]? = some v → Value.okWide Try.prog W .any base t v := hval0
  have hW' := hW
  obtain ⟨p, q, hA0, hV, rfl, hfz, hnd⟩ := hW
  have hA : DataW.TrodAll enc Try.prog W 0 (fun _ => true) true Try.f21.params.toList args.toList ds p := hA0
  rw [Try.params21] at hA hval
  obtain ⟨v0, vs0, d0, ds0, p0, q0, hargs, rfl, rfl, h0, r0⟩ := trodAll_cons hA
  obtain ⟨v1, vs1, d1, ds1, p1, q1, rfl, rfl, rfl, h1, r1⟩ := trodAll_cons r0
  obtain ⟨v2, vs2, d2, ds2, p2, q2, rfl, rfl, rfl, h2, r2⟩ := trodAll_cons r1
  obtain ⟨v3, vs3, d3, ds3, p3, q3, rfl, rfl, rfl, h3, r3⟩ := trodAll_cons r2
  obtain ⟨v4, vs4, d4, ds4, p4, q4, rfl, rfl, rfl, h4, r4⟩ := trodAll_cons r3
  obtain ⟨rfl, rfl, rfl⟩ := trodAll_nil r4
  obtain rfl : args = #[v0, v1, v2, v3, v4] := by cases args; simp_all
  obtain ⟨rfl, rfl⟩ := trodVars_none hV
  have k0 := h0
  have lt0 : ∀ x ∈ p0, x.block < W.heap.size := by obtain ⟨m, hm⟩ := k0; exact DataW.trod_lt m _ _ _ hm
  have k1 := h1
  have lt1 : ∀ x ∈ p1, x.block < W.heap.size := by obtain ⟨m, hm⟩ := k1; exact DataW.trod_lt m _ _ _ hm
  have k2 := h2
  have lt2 : ∀ x ∈ p2, x.block < W.heap.size := by obtain ⟨m, hm⟩ := k2; exact DataW.trod_lt m _ _ _ hm
  have k3 := h3
  have lt3 : ∀ x ∈ p3, x.block < W.heap.size := by obtain ⟨m, hm⟩ := k3; exact DataW.trod_lt m _ _ _ hm
  have k4 := h4
  have lt4 : ∀ x ∈ p4, x.block < W.heap.size := by obtain ⟨m, hm⟩ := k4; exact DataW.trod_lt m _ _ _ hm
  obtain ⟨x0, rfl⟩ := open_word Try.underlying22 (hval 0 22 v0 rfl rfl) h0
  obtain ⟨x1, rfl, bl1, bh1⟩ := open_num Try.underlying3 (hval 1 3 v1 rfl rfl) h1
  obtain ⟨x2, rfl, bl2, bh2⟩ := open_num Try.underlying2 (hval 2 2 v2 rfl rfl) h2
  obtain ⟨x3, rfl, bl3, bh3⟩ := open_num Try.underlying3 (hval 3 3 v3 rfl rfl) h3
  obtain ⟨x4, rfl, bl4, bh4⟩ := open_num Try.underlying3 (hval 4 3 v4 rfl rfl) h4
  clear hA0 hval0
  refine (walk_RingGrace W x0 x1 bl1 bh1 x2 bl2 bh2 x3 bl3 bh3 x4 bl4 bh4).mono fun e W' ⟨he, fr⟩ => ?_
  subst he
  have bel := fr.below
  exact ⟨_, rfl, _, _, _, [], _, [], hW', trodAll_mk1 (shut_bool Try.underlying4 _), (trodAll_cons_mk (Below.trod laid (by kernel_rfl) (of_decide_eq_true (by kernel_rfl)) k0 bel lt0) (trodAll_cons_mk (Below.trod laid (by kernel_rfl) (of_decide_eq_true (by kernel_rfl)) k1 bel lt1) (trodAll_cons_mk (Below.trod laid (by kernel_rfl) (of_decide_eq_true (by kernel_rfl)) k2 bel lt2) (trodAll_cons_mk (Below.trod laid (by kernel_rfl) (of_decide_eq_true (by kernel_rfl)) k3 bel lt3) (trodAll_cons_mk (Below.trod laid (by kernel_rfl) (of_decide_eq_true (by kernel_rfl)) k4 bel lt4) trodAll_mk0))))), rfl, bel.frame _, fun h => by cases h⟩

theorem inPlace : Try.prog.inPlace 21 = ["sync/atomic.AddInt64"] := by kernel_rfl
theorem closed : joinedFacts Try.prog 21 Try.f21 Rows.ringGraceSpec Rows.ringGraceRow = true := by
  unfold joinedFacts
  repeat' (with_reducible refine and_mk ?_ ?_)
  all_goals first
    | with_reducible exact enters
    | with_reducible exact laid
    | with_reducible exact rowed
    | with_reducible exact noStops
    | with_reducible exact noKnobs
    | with_reducible exact heard
    | (rw [lifts]; as_aux_lemma => kernel_rfl)
    | (rw [makes]; as_aux_lemma => kernel_rfl)
    | (rw [plains]; as_aux_lemma => kernel_rfl)
    | (rw [inPlace]; as_aux_lemma => kernel_rfl)
    | as_aux_lemma => kernel_rfl
theorem named : Try.prog.funcNamed Rows.ringGraceRow.func = some 21 := by kernel_rfl
theorem isOne : (Try.f21).isInstance Try.prog Rows.ringGraceRow.origin Rows.ringGraceRow.targs := of_decide_eq_true (by kernel_rfl)
theorem wraps : (Try.f21).isWrapper Try.prog Rows.ringGraceRow.wrapper Rows.ringGraceRow.mainSum := by unfold Func.isWrapper; first | (rw [if_pos (by decide +kernel)]; kernel_rfl) | (rw [if_neg (by decide +kernel)]; exact ⟨rfl, rfl⟩)
theorem over : Rows.ringGraceRow.holds Try.pinned (OpenSpec.ofChange Rows.ringGraceSpec) :=
  OpenClaim.holds_of_wide 21 Try.f21 rfl rfl rfl rfl rfl rfl rfl ⟨rfl, rfl, rfl, rfl, rfl⟩ rfl rfl rfl rfl rfl named Try.func21 closed
    isOne wraps
    (fun os started H enc _ => lifted os started H enc)

/-- THE STATEMENT. -/
theorem proved : Rows.RingGraceSaid := over
#print axioms proved
end ringGrace
end Go.Proofs.Ytandenkoejbloaa
