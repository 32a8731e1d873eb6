/- For every input the law quorumitelaw5.RingOthers returns true: what one collector does changes nothing of the others'. Conditions: none. -/
import Derived.Test.YtandenkoejbloaaTold5
import Derived.Test.YtandenkoejbloaaRring3
import Derived.Test.YtandenkoejbloaaFacts
import Derived.Test.YtandenkoejbloaaEq
import Derived.Test.YtandenkoejbloaaMore
import Derived.Test.YtandenkoejbloaaOpen
namespace Go.Proofs.Ytandenkoejbloaa
open Go Go.RowKit
/-- n collectors; the m-th one's j-th generation, since j. -/
def stO (n m j : Nat) : Gs := (List.replicate n ((0 : Int), (0 : Int))).set m ((j : Int), (j : Int))
theorem stO_zero (n m : Nat) : stO n m 0 = List.replicate n (0, 0) := by
  unfold stO
  apply List.ext_getElem?
  intro i
  rw [List.getElem?_set, List.getElem?_replicate, List.length_replicate]
  split
  · rename_i h; subst h; split <;> rfl
  · rfl
theorem gat_stO {n m j : Nat} (h : m < n) : gat (stO n m j) (m : Int) = some ((j : Int), (j : Int)) := by
  unfold gat stO
  rw [if_pos (by omega), Int.toNat_natCast, List.getElem?_set_self (by rw [List.length_replicate]; exact h)]
theorem gat_stO' {n m j i : Nat} (h : i < n) (hi : i ≠ m) : gat (stO n m j) (i : Int) = some (0, 0) := by
  unfold gat stO
  rw [if_pos (by omega), Int.toNat_natCast, List.getElem?_set_ne (Ne.symm hi), List.getElem?_replicate, if_pos h]
theorem gat_rep {n i : Nat} (h : i < n) : gat (List.replicate n (0, 0)) (i : Int) = some (0, 0) := by
  unfold gat
  rw [if_pos (by omega), Int.toNat_natCast, List.getElem?_replicate, if_pos h]

set_option maxRecDepth 100000 in
set_option maxHeartbeats 30000000 in
theorem walk_RingOthers (w : World) (seed : W) (x1 : Int) (_ : -9223372036854775808 ≤ x1) (_ : x1 ≤ 9223372036854775807) (x2 : Int) (_ : -9223372036854775808 ≤ x2) (_ : x2 ≤ 9223372036854775807) (x3 : Int) (_ : -9223372036854775808 ≤ x3) (_ : x3 ≤ 9223372036854775807) :
    Calls Try.prog 22 #[.int .u64 (u seed), .int .i64 x1, .int .i64 x2, .int .i64 x3] w fun e w' => e = .returned (.bool true) ∧ Fr none_ w w' := by
  obtain ⟨m1, hm1, hmod1⟩ := modN 16 (by decide) x1
  have hmod1 : (IntKind.u64.wrap x1).tmod 16 = (m1 : Int) := hmod1
  have e1 : IntKind.i64.wrap (m1 : Int) = m1 := IntWalk.i64_in _ (by omega)
  obtain ⟨k, hk⟩ : ∃ k : Nat, (k : Int) = 1 + (m1 : Int) := ⟨1 + m1, by omega⟩
  have a1 : IntKind.i64.wrap (1 + (m1 : Int)) = k := (IntWalk.i64_in _ (by omega)).trans hk.symm
  obtain ⟨m, hm, hmod2⟩ := modN k (by omega) x2
  have e2 : IntKind.i64.wrap (m : Int) = m := IntWalk.i64_in _ (by omega)
  have e5 : IntKind.u64.wrap (k : Int) = k := by rw [IntKind.wrap_u64]; omega
  have e6 : ¬ (k : Int) = 0 := by omega
  have e7 : ((k : Int) == 0) = false := by simp; omega
  obtain ⟨T, hT, hmod3⟩ := modN 21 (by decide) x3
  have hmod3 : (IntKind.u64.wrap x3).tmod 21 = (T : Int) := hmod3
  have e4 : IntKind.i64.wrap (T : Int) = T := IntWalk.i64_in _ (by omega)
  have HKB := Lib.hid (show (1 ≤ k ∧ k ≤ 16) ∧ m < k ∧ T < 21 by omega)
  have HN : ∀ wa : World, Calls Try.prog 63 #[.int .u64 (u seed), .int .i64 k, .int .i64 5] wa fun e w' => ∃ b lb, e = .returned (.pointer (some ⟨b, 0, none⟩)) ∧ wa.heap.size ≤ b ∧ wa.heap.size ≤ lb ∧ RgAt w' b lb seed 5 (stO k m 0) ∧ Fr none_ wa w' := fun wa => by
    have := rnew_ok seed k 5 wa (by unfold badR; omega)
    rw [Int.toNat_natCast, ← stO_zero k m] at this
    exact this
  have HR : ∀ (j : Nat), j < T → ∀ (wa : World) (b lb : Nat), RgAt wa b lb seed 5 (stO k m j) → Calls Try.prog 66 #[.pointer (some ⟨b, 0, none⟩), .int .i64 m, .int .i64 ((j : Int) + 1), .int .i64 ((j : Int) + 1)] wa fun e w' => e = .returned (.int .i64 0) ∧ RgAt w' b lb seed 5 (stO k m (j + 1)) ∧ Fr (two b lb) wa w' := fun j hj wa b lb h => by
    have hc : rotC (stO k m j) m ((j : Int) + 1) ((j : Int) + 1) = 0 := (rotC_some (gat_stO hm) _ _).2.2 ⟨rfl, by omega, by omega, by omega⟩
    have hp : putG (stO k m j) 0 m ((j : Int) + 1) ((j : Int) + 1) = stO k m (j + 1) := by
      rw [putG_ok]
      unfold stO
      rw [List.set_set]
      rfl
    have := rrot_any h m ((j : Int) + 1) ((j : Int) + 1)
    rw [hc, hp] at this
    exact this
  have HT : ∀ wa : World, Calls Try.prog 65 #[] wa fun e w' => e = .returned (.bool true) ∧ Fr none_ wa w' := told5_any
  clear hk hm hT hm1
  unfold keyv at *
  go_enter Try.func22, Try.ntmps22
  go_wp2_with fail
  refine (HN _).mono ?_
  rintro e w1 ⟨b, lb, rfl, hb, hlb, hA, hF⟩
  have h2 := none_of_two hb hlb
  clear HN hb hlb
  have HA := Lib.hid hA
  have HF := Lib.hid hF
  clear hA hF
  go_wp2_with fail
  go_loopw [12] (fun i wr => ∃ j : Nat, j ≤ T ∧ i = .int .i64 ((j : Int) + 1) ∧ RgAt wr b lb seed 5 (stO k m j) ∧ Fr none_ w wr) (fun i _ => T + 1 - (intOf i).toNat)
  case atStart => exact ⟨0, Nat.zero_le _, rfl, HA.out, HF.out⟩
  case round =>
    obtain ⟨j, hj, rfl, hA, hF⟩ := hrel
    clear HA HF
    by_cases hlt : j < T
    · have d1 : decide ((j : Int) + 1 ≤ (T : Int)) = true := by simp; omega
      have hw1 : IntKind.i64.wrap ((j : Int) + 1 + 1) = (j : Int) + 1 + 1 := IntWalk.i64_in _ (by have := HKB.out; omega)
      have HRj := HR j hlt
      clear HR
      generalize hji : (j : Int) + 1 = ji at *
      go_wp2_with fail
      refine (HRj _ b lb hA).mono ?_
      rintro e w2 ⟨rfl, hA2, hf2⟩
      have HA2 := Lib.hid hA2
      have HF2 := Lib.hid (hF.step hf2 h2)
      clear hA hF hA2 hf2
      go_wp2_with fail
      go_roundw
      case rel => exact ⟨j + 1, by omega, by subst hji; simp, HA2.out, HF2.out⟩
      case measure => subst hji; simp [intOf]; omega
    · obtain rfl : j = T := by omega
      have d1 : decide ((j : Int) + 1 ≤ (j : Int)) = false := by simp; omega
      clear hlt HR hj
      have HA := Lib.hid hA
      have HF := Lib.hid hF
      clear hA hF
      go_wp2_with fail
      clear d1
      go_loopw [13] (fun i wr => ∃ i' : Nat, i' ≤ k ∧ i = .int .i64 i' ∧ RgAt wr b lb seed 5 (stO k m j) ∧ Fr none_ w wr) (fun i _ => k - (intOf i).toNat)
      case atStart => exact ⟨0, Nat.zero_le _, rfl, HA.out, HF.out⟩
      case round =>
        obtain ⟨i, hi, rfl, hA, hF⟩ := hrel
        clear HA HF
        by_cases hlt : i < k
        · have d1 : decide ((i : Int) < (k : Int)) = true := by simp; omega
          have hw1 : IntKind.i64.wrap ((i : Int) + 1) = (i : Int) + 1 := IntWalk.i64_in _ (by have := HKB.out; omega)
          have HN2 : ∀ wa : World, Calls Try.prog 64 #[.int .u64 (u seed), .int .i64 k, .int .i64 5] wa fun e w' => ∃ b gb sb, e = .returned (.pointer (some ⟨b, 0, none⟩)) ∧ RfAt w' b gb sb seed 5 (List.replicate k (0, 0)) ∧ Fr none_ wa w' := fun wa => by
            have := fnew_ok seed k 5 wa (by have := HKB.out; unfold badR; omega)
            rw [Int.toNat_natCast] at this
            refine this.mono ?_
            rintro e w' ⟨b, gb, sb, h1, _, _, _, h2, h3⟩
            exact ⟨b, gb, sb, h1, h2, h3⟩
          have HK2 : ∀ (wa : World) (fb gb sb : Nat), RfAt wa fb gb sb seed 5 (List.replicate k (0, 0)) → Calls Try.prog 71 #[.pointer (some ⟨fb, 0, none⟩), .int .i64 i, .int .i64 0, .int .i64 1000] wa fun e w' => e = .returned (.tuple #[keyv (ofW seed i 0), .int .i64 0]) ∧ Fr none_ wa w' := fun wa fb gb sb h => by
            have hc : keyC (List.replicate k (0, 0)) 5 i 0 1000 = 0 := (keyC_some (gat_rep hlt) _ _ _).1 (.inl rfl)
            have := fkey_any h i 0 1000
            rw [hc, keyK_ok] at this
            exact this
          by_cases him : i = m
          · subst him
            have HG : ∀ wa : World, RgAt wa b lb seed 5 (stO k i j) → Calls Try.prog 72 #[.pointer (some ⟨b, 0, none⟩), .int .i64 i] wa fun e w' => e = .returned (.int .i64 j) ∧ wa = w' := fun wa h => by
              have := rgen_any h i
              rw [genC, gat_stO hlt] at this
              exact this
            obtain ⟨c, hc⟩ : ∃ c, c = keyC (stO k i j) 5 i 0 1000 := ⟨_, rfl⟩
            have HK : ∀ wa : World, RgAt wa b lb seed 5 (stO k i j) → Calls Try.prog 70 #[.pointer (some ⟨b, 0, none⟩), .int .i64 i, .int .i64 0, .int .i64 1000] wa fun e w' => e = .returned (.tuple #[keyv (keyK c seed i 0), .int .i64 c]) ∧ RgAt w' b lb seed 5 (stO k i j) ∧ Fr (two b lb) wa w' := fun wa h => by
              rw [hc]; exact rkey_any h i 0 1000
            generalize keyK c seed i 0 = kk at *
            generalize ofW seed i 0 = q at *
            clear hc
            unfold keyv at *
            generalize hii : (i : Int) = ii at *
            go_wp2_with fail
            refine (HK _ hA).mono ?_
            rintro e w2 ⟨rfl, hA2, hf2⟩
            go_wp2_with fail
            have hx := (Fr.refl none_ w2).alloc (.cells #[.int .u64 (u kk.1), .int .u64 (u kk.2)] 56)
            have hB := Blk.new w2 #[.int .u64 (u kk.1), .int .u64 (u kk.2)] 56
            have hA3 := hA2.kept hx (fun f => f) (fun f => f)
            have hF3 := (hF.step hf2 h2).trans hx
            clear hA hA2 hF hf2 hx HK
            generalize hbx : w2.heap.size = bx at *
            generalize w2.alloc (.cells #[.int .u64 (u kk.1), .int .u64 (u kk.2)] 56) = w3 at *
            go_wp2_with fail
            refine (HG _ hA3).mono ?_
            rintro e w4 ⟨rfl, rfl⟩
            go_wp2_with fail
            refine (HN2 _).mono ?_
            rintro e w4 ⟨fb, gb, sb, rfl, hf, hf4⟩
            go_wp2_with fail
            refine (HK2 _ fb gb sb hf).mono ?_
            rintro e w5 ⟨rfl, hf5⟩
            go_wp2_with fail
            have HF4 := Lib.hid ((hF3.trans (hf4.trans hf5)).alloc (.cells #[.int .u64 (u q.1), .int .u64 (u q.2)] 56))
            have HA4 := Lib.hid (hA3.kept ((hf4.trans hf5).alloc (.cells #[.int .u64 (u q.1), .int .u64 (u q.2)] 56)) (fun f => f) (fun f => f))
            clear hA3 hF3 hf hf4 hf5 HG HN2 HK2
            go_roundw
            case rel => exact ⟨i + 1, by omega, by subst hii; simp, HA4.out, HF4.out⟩
            case measure => subst hii; simp [intOf]; omega
          · have HG : ∀ wa : World, RgAt wa b lb seed 5 (stO k m j) → Calls Try.prog 72 #[.pointer (some ⟨b, 0, none⟩), .int .i64 i] wa fun e w' => e = .returned (.int .i64 0) ∧ wa = w' := fun wa h => by
              have := rgen_any h i
              rw [genC, gat_stO' hlt him] at this
              exact this
            have HS : ∀ wa : World, RgAt wa b lb seed 5 (stO k m j) → Calls Try.prog 73 #[.pointer (some ⟨b, 0, none⟩), .int .i64 i] wa fun e w' => e = .returned (.int .i64 0) ∧ wa = w' := fun wa h => by
              have := rsince_any h i
              rw [sinC, gat_stO' hlt him] at this
              exact this
            have HK : ∀ wa : World, RgAt wa b lb seed 5 (stO k m j) → Calls Try.prog 70 #[.pointer (some ⟨b, 0, none⟩), .int .i64 i, .int .i64 0, .int .i64 1000] wa fun e w' => e = .returned (.tuple #[keyv (ofW seed i 0), .int .i64 0]) ∧ RgAt w' b lb seed 5 (stO k m j) ∧ Fr (two b lb) wa w' := fun wa h => by
              have hc : keyC (stO k m j) 5 i 0 1000 = 0 := (keyC_some (gat_stO' hlt him) _ _ _).1 (.inl rfl)
              have := rkey_any h i 0 1000
              rw [hc, keyK_ok] at this
              exact this
            generalize ofW seed i 0 = kk at *
            unfold keyv at *
            have n1 : ((i : Int) != (m : Int)) = true := by simp; omega
            have n2 : ((i : Int) == (m : Int)) = false := by simp; omega
            generalize hii : (i : Int) = ii at *
            generalize hmi : (m : Int) = mi at *
            go_wp2_with fail
            refine (HK _ hA).mono ?_
            rintro e w2 ⟨rfl, hA2, hf2⟩
            go_wp2_with fail
            have hx := (Fr.refl none_ w2).alloc (.cells #[.int .u64 (u kk.1), .int .u64 (u kk.2)] 56)
            have hB := Blk.new w2 #[.int .u64 (u kk.1), .int .u64 (u kk.2)] 56
            have hA3 := hA2.kept hx (fun f => f) (fun f => f)
            have hF3 := (hF.step hf2 h2).trans hx
            clear hA hA2 hF hf2 hx HK
            generalize hbx : w2.heap.size = bx at *
            generalize w2.alloc (.cells #[.int .u64 (u kk.1), .int .u64 (u kk.2)] 56) = w3 at *
            go_wp2_with fail
            refine (HG _ hA3).mono ?_
            rintro e w4 ⟨rfl, rfl⟩
            go_wp2_with fail
            refine (HS _ hA3).mono ?_
            rintro e w4 ⟨rfl, rfl⟩
            go_wp2_with fail
            refine (HN2 _).mono ?_
            rintro e w4 ⟨fb, gb, sb, rfl, hf, hf4⟩
            go_wp2_with fail
            refine (HK2 _ fb gb sb hf).mono ?_
            rintro e w5 ⟨rfl, hf5⟩
            have hfx := (hf4.trans hf5).alloc (.cells #[.int .u64 (u kk.1), .int .u64 (u kk.2)] 56)
            have hB5 := hB.kept (hf4.trans hf5) (fun f => f)
            have hB6 := hB.kept hfx (fun f => f)
            have g0 : w5.cell? ⟨bx, 0, none⟩ = some (.int .u64 (u kk.1)) := hB5.cell_of rfl
            have g1 : w5.cell? ⟨bx, 1, none⟩ = some (.int .u64 (u kk.2)) := hB5.cell_of rfl
            have g2 : (w5.alloc (.cells #[.int .u64 (u kk.1), .int .u64 (u kk.2)] 56)).cell? ⟨bx, 0, none⟩ = some (.int .u64 (u kk.1)) := hB6.cell_of rfl
            have g3 : (w5.alloc (.cells #[.int .u64 (u kk.1), .int .u64 (u kk.2)] 56)).cell? ⟨bx, 1, none⟩ = some (.int .u64 (u kk.2)) := hB6.cell_of rfl
            have HF4 := Lib.hid (hF3.trans hfx)
            have HA4 := Lib.hid (hA3.kept hfx (fun f => f) (fun f => f))
            clear hA3 hF3 hf hf4 hf5 hfx hB hB5 hB6 HG HS HN2 HK2
            go_wp2_with fail
            go_roundw
            case rel => exact ⟨i + 1, by omega, by subst hii; simp, HA4.out, HF4.out⟩
            case measure => subst hii; simp [intOf]; omega
        · have d1 : decide ((i : Int) < (k : Int)) = false := by simp; omega
          have d2 : decide (i < k) = false := by simp; omega
          have HF := Lib.hid hF
          clear hlt hA hF
          go_wp2_with fail
          refine (HT _).mono ?_
          rintro e w2 ⟨rfl, hf⟩
          go_wp2_with fail
          go_ret
          exact ⟨rfl, HF.out.trans hf⟩

namespace ringOthers
open Go Go.ChangeShapes Go.WideShapes Go.ChangeAt Go.RowKit
set_option linter.unusedVariables false
set_option maxRecDepth 100000 in
theorem lifted (os : Os) (started : os.Started) (H : Type) (enc : TypeId × Value → H) :
    ReturnsInHanded {} Try.checked os 22 .any (Rows.ringOthersSpec.pre6 enc Try.prog Try.f22 Rows.ringOthersRow.domain false) (Rows.ringOthersSpec.post enc Try.prog Try.f22 false true false false) := by
  refine returnsInHanded_of_change (C := Try.checked) owned started (by kernel_rfl) Try.func22
    (ChangeSpec.witness6 (enc := enc) (C := Try.checked) false ⟨#[], #[.int .u64 0, .int .i64 0, .int .i64 0, .int .i64 0], []⟩ 8 (by kernel_rfl) (by kernel_rfl) (by kernel_rfl) (by kernel_rfl)) ?_
  intro W base args ds gs before hval0 hW hcnd _
  have hval : ∀ (j : Nat) t v, Try.f22.params[j]? = some t → args[j]? = some v → Value.okWide Try.prog W .any base t v := hval0
  have hW' := hW
  obtain ⟨p, q, hA0, hV, rfl, hfz, hnd⟩ := hW
  have hA : DataW.TrodAll enc Try.prog W 0 (fun _ => true) true Try.f22.params.toList args.toList ds p := hA0
  rw [Try.params22] at hA hval
  obtain ⟨v0, vs0, d0, ds0, p0, q0, hargs, rfl, rfl, h0, r0⟩ := trodAll_cons hA
  obtain ⟨v1, vs1, d1, ds1, p1, q1, rfl, rfl, rfl, h1, r1⟩ := trodAll_cons r0
  obtain ⟨v2, vs2, d2, ds2, p2, q2, rfl, rfl, rfl, h2, r2⟩ := trodAll_cons r1
  obtain ⟨v3, vs3, d3, ds3, p3, q3, rfl, rfl, rfl, h3, r3⟩ := trodAll_cons r2
  obtain ⟨rfl, rfl, rfl⟩ := trodAll_nil r3
  obtain rfl : args = #[v0, v1, v2, v3] := by cases args; simp_all
  obtain ⟨rfl, rfl⟩ := trodVars_none hV
  have k0 := h0
  have lt0 : ∀ x ∈ p0, x.block < W.heap.size := by obtain ⟨m, hm⟩ := k0; exact DataW.trod_lt m _ _ _ hm
  have k1 := h1
  have lt1 : ∀ x ∈ p1, x.block < W.heap.size := by obtain ⟨m, hm⟩ := k1; exact DataW.trod_lt m _ _ _ hm
  have k2 := h2
  have lt2 : ∀ x ∈ p2, x.block < W.heap.size := by obtain ⟨m, hm⟩ := k2; exact DataW.trod_lt m _ _ _ hm
  have k3 := h3
  have lt3 : ∀ x ∈ p3, x.block < W.heap.size := by obtain ⟨m, hm⟩ := k3; exact DataW.trod_lt m _ _ _ hm
  obtain ⟨x0, rfl⟩ := open_word Try.underlying22 (hval 0 22 v0 rfl rfl) h0
  obtain ⟨x1, rfl, bl1, bh1⟩ := open_num Try.underlying3 (hval 1 3 v1 rfl rfl) h1
  obtain ⟨x2, rfl, bl2, bh2⟩ := open_num Try.underlying3 (hval 2 3 v2 rfl rfl) h2
  obtain ⟨x3, rfl, bl3, bh3⟩ := open_num Try.underlying3 (hval 3 3 v3 rfl rfl) h3
  clear hA0 hval0
  refine (walk_RingOthers W x0 x1 bl1 bh1 x2 bl2 bh2 x3 bl3 bh3).mono fun e W' ⟨he, fr⟩ => ?_
  subst he
  have bel := fr.below
  exact ⟨_, rfl, _, _, _, [], _, [], hW', trodAll_mk1 (shut_bool Try.underlying4 _), (trodAll_cons_mk (Below.trod laid (by kernel_rfl) (of_decide_eq_true (by kernel_rfl)) k0 bel lt0) (trodAll_cons_mk (Below.trod laid (by kernel_rfl) (of_decide_eq_true (by kernel_rfl)) k1 bel lt1) (trodAll_cons_mk (Below.trod laid (by kernel_rfl) (of_decide_eq_true (by kernel_rfl)) k2 bel lt2) (trodAll_cons_mk (Below.trod laid (by kernel_rfl) (of_decide_eq_true (by kernel_rfl)) k3 bel lt3) trodAll_mk0)))), rfl, bel.frame _, fun h => by cases h⟩

theorem inPlace : Try.prog.inPlace 22 = ["sync/atomic.AddInt64"] := by kernel_rfl
theorem closed : joinedFacts Try.prog 22 Try.f22 Rows.ringOthersSpec Rows.ringOthersRow = true := by
  unfold joinedFacts
  repeat' (with_reducible refine and_mk ?_ ?_)
  all_goals first
    | with_reducible exact enters
    | with_reducible exact laid
    | with_reducible exact rowed
    | with_reducible exact noStops
    | with_reducible exact noKnobs
    | with_reducible exact heard
    | (rw [lifts]; as_aux_lemma => kernel_rfl)
    | (rw [makes]; as_aux_lemma => kernel_rfl)
    | (rw [plains]; as_aux_lemma => kernel_rfl)
    | (rw [inPlace]; as_aux_lemma => kernel_rfl)
    | as_aux_lemma => kernel_rfl
theorem named : Try.prog.funcNamed Rows.ringOthersRow.func = some 22 := by kernel_rfl
theorem isOne : (Try.f22).isInstance Try.prog Rows.ringOthersRow.origin Rows.ringOthersRow.targs := of_decide_eq_true (by kernel_rfl)
theorem wraps : (Try.f22).isWrapper Try.prog Rows.ringOthersRow.wrapper Rows.ringOthersRow.mainSum := by unfold Func.isWrapper; first | (rw [if_pos (by decide +kernel)]; kernel_rfl) | (rw [if_neg (by decide +kernel)]; exact ⟨rfl, rfl⟩)
theorem over : Rows.ringOthersRow.holds Try.pinned (OpenSpec.ofChange Rows.ringOthersSpec) :=
  OpenClaim.holds_of_wide 22 Try.f22 rfl rfl rfl rfl rfl rfl rfl ⟨rfl, rfl, rfl, rfl, rfl⟩ rfl rfl rfl rfl rfl named Try.func22 closed
    isOne wraps
    (fun os started H enc _ => lifted os started H enc)

/-- THE STATEMENT. -/
theorem proved : Rows.RingOthersSaid := over
#print axioms proved
end ringOthers
end Go.Proofs.Ytandenkoejbloaa
