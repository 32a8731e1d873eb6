/- For every input the law quorumitelaw7.SealBeats returns true: beats and samples use one row of numbers. Conditions: none. -/
import Derived.Test.YtandenkoejbloaaTold7
import Derived.Test.YtandenkoejbloaaFacts
import Derived.Test.YtandenkoejbloaaMore
import Derived.Test.YtandenkoejbloaaOpenL
namespace Go.Proofs.Ytandenkoejbloaa
open Go Go.RowKit
/-- How many of the first ones are so. -/
def cntT (l : List Bool) (j : Nat) : Nat := (l.take j).count true
theorem cntT_le (l : List Bool) (j : Nat) : cntT l j ≤ j := by
  unfold cntT
  exact Nat.le_trans List.count_le_length (by rw [List.length_take]; omega)
theorem cntT_succ {l : List Bool} {j : Nat} {x : Bool} (h : l[j]? = some x) : cntT l (j + 1) = cntT l j + (if x then 1 else 0) := by
  unfold cntT
  rw [List.take_add_one, h, List.count_append]
  cases x <;> rfl
theorem may_b1 (s : Int) (h0 : 0 ≤ s) (h1 : s ≤ 1000) : mayM (nxM 3 (0, s) 1 0 5 5 0) = true := by
  unfold mayM inI nxM
  simp only [Bool.and_eq_true, decide_eq_true_eq, if_pos]
  omega
theorem may_b3 (s : Int) (h0 : 0 ≤ s) (h1 : s ≤ 1000) : mayM (nxM 3 (0, s) 3 0 5 0 0) = true := by
  have e : ¬ (3 : Int) = 1 := by decide
  unfold mayM inI nxM
  simp only [Bool.and_eq_true, decide_eq_true_eq, if_neg e]
  omega
set_option maxRecDepth 100000 in
set_option maxHeartbeats 60000000 in
theorem walk_SealBeats (w : World) (seed : W) (v : Value) (L : List Bool) (hL : Rd w v (L.map Value.bool)) :
    Calls Try.prog 26 #[.int .u64 (u seed), v] w fun e w' => e = .returned (.bool true) ∧ Fr none_ w w' := by
  have HT : ∀ wa : World, Calls Try.prog 76 #[] wa fun e w' => e = .returned (.bool true) ∧ Fr none_ wa w' := told7_any
  have HN : ∀ wa : World, Calls Try.prog 74 #[.int .u64 (u seed), .int .i64 3] wa fun e w' => ∃ b, e = .returned (.pointer (some ⟨b, 0, none⟩)) ∧ wa.heap.size ≤ b ∧ SlAt w' b seed 3 (0, 0) ∧ Fr none_ wa w' := fun wa => snew_ok seed 3 wa (by decide) (by decide)
  have HRD := Lib.hid hL
  obtain ⟨ao, cap, rfl, hc1, hm1, _⟩ := hL
  rw [List.length_map] at *
  unfold maxLen at hm1
  go_enter Try.func26, Try.ntmps26
  go_wp2_with fail
  refine (HN _).mono ?_
  rintro e w1 ⟨b, rfl, hb, hA, hF⟩
  have h1 := none_of_one hb
  by_cases hbig : 30 < L.length
  · have hd : decide ((30 : Int) < (L.length : Int)) = true := by simp; omega
    clear hA
    go_wp2_with fail
    refine (HT _).mono ?_
    rintro e w3 ⟨rfl, hf⟩
    go_wp2_with fail
    go_ret
    exact ⟨rfl, hF.trans hf⟩
  have hd : decide ((30 : Int) < (L.length : Int)) = false := by simp; omega
  have hd2 : decide (30 < L.length) = false := decide_eq_false hbig
  have HL := Lib.hid (show L.length ≤ 30 by omega)
  have HF := Lib.hid hF
  have HA := Lib.hid hA
  clear HN hA hF
  go_wp2_with fail
  clear hd hd2 hbig
  go_loopw [6] (fun i wr => ∃ j : Nat, j ≤ L.length ∧ i = .int .i64 j ∧ SlAt wr b seed 3 (0, (j : Int) + (cntT L j : Int)) ∧ Fr none_ w wr) (fun i _ => L.length - (intOf i).toNat)
  case atStart => exact ⟨0, Nat.zero_le _, rfl, HA.out, HF.out⟩
  case round =>
    clear HA HF
    obtain ⟨j, hj, rfl, hA, hF⟩ := hrel
    by_cases hlt : j < L.length
    · have hd : decide ((j : Int) < (L.length : Int)) = true := by simp; omega
      obtain ⟨x, hx⟩ : ∃ x, L[j]? = some x := ⟨_, List.getElem?_eq_getElem hlt⟩
      have hRD : Rd w (.slice ao L.length cap) (L.map Value.bool) := by have := HRD.out; simpa only [List.length_map] using this
      obtain ⟨pb, po, rfl, hpb, hc0⟩ := hRD.at_ (j := j) (x := .bool x) (by rw [List.getElem?_map, hx]; rfl)
      have HC : ∀ w', Fr none_ w w' → ∀ (i : Nat) (y : Bool), L[i]? = some y → w'.cell? ⟨pb, po + i, none⟩ = some (.bool y) := fun w' hf i y hy => by
        obtain ⟨pb', po', e, hpb', hc⟩ := hRD.at_ (j := i) (x := .bool y) (by rw [List.getElem?_map, hy]; rfl)
        simp only [Option.some.injEq, Addr.mk.injEq, and_true] at e
        obtain ⟨rfl, rfl⟩ := e
        exact (hf.cell (p := ⟨pb, po + i, none⟩) hpb' (fun f => f)).trans hc
      have HLL := HL.out
      have hcl := cntT_le L j
      have hcs := cntT_succ hx
      obtain ⟨s, hs⟩ : ∃ s : Int, s = (j : Int) + (cntT L j : Int) := ⟨_, rfl⟩
      rw [← hs] at hA
      have hw1 : IntKind.i64.wrap ((j : Int) + 1) = (j : Int) + 1 := IntWalk.i64_in _ (by omega)
      have hm1 := may_b1 s (by omega) (by omega)
      have hm3 := may_b3 (s + 1) (by omega) (by omega)
      have HS : ∀ wa, SlAt wa b seed 3 (0, s) → Calls Try.prog 77 #[.pointer (some ⟨b, 0, none⟩), .int .i64 0, .int .i64 5, .int .i64 5] wa fun e w' => ∃ v, e = .returned (.tuple #[v, .int .i64 0]) ∧ Own w' wa.heap.size 5 v ((sealB (ofW seed 3 0) (nxM 3 (0, s) 1 0 5 5 0)).map bv) ∧ SlAt w' b seed 3 (0, s + 1) ∧ Fr (one_ b) wa w' := fun wa h => by
        have := ssample_any h 0 5 5
        obtain ⟨q1, q2, q3, _⟩ := sl_ok hm1 (ofW seed 3 0) (0, s)
        dsimp only at this
        rw [q1, q2, q3] at this
        exact this
      have HCH := Lib.hid HC
      have HSQ := Lib.hid hs
      clear hc0 hRD HC hs
      cases x
      · skip
        as_aux_lemma =>
          have HX : ∀ (wa : World) (v : Value), Rd wa v ((sealB (ofW seed 3 0) (nxM 3 (0, s) 1 0 5 5 0)).map bv) → Calls Try.prog 59 #[v] wa fun e w' => ∃ r, e = .returned (.tuple #[.agg #[.int .i64 1, .int .i64 3, .int .i64 0, .int .i64 (s + 1), .int .i64 5, .int .i64 5, .int .i64 0], r, keyv (tagW (ofW seed 3 0) (msgB (nxM 3 (0, s) 1 0 5 5 0))), .int .i64 0]) ∧ Own w' wa.heap.size 5 r ((msgB (nxM 3 (0, s) 1 0 5 5 0)).map bv) ∧ Fr none_ wa w' := fun wa v h => split_seal _ _ hm1 v wa h
          generalize tagW (ofW seed 3 0) (msgB (nxM 3 (0, s) 1 0 5 5 0)) = tg at *
          generalize sealB (ofW seed 3 0) (nxM 3 (0, s) 1 0 5 5 0) = sb at *
          generalize msgB (nxM 3 (0, s) 1 0 5 5 0) = mb at *
          clear hm1 hm3
          unfold keyv at *
          have c0 := HCH.out _ hF j _ hx
          go_wp2_with fail
          refine (HS _ hA).mono ?_
          rintro e w2 ⟨v2, rfl, ho2, hA2, hf⟩
          have hF2 := hF.step hf h1
          have c0 := HCH.out _ hF2 j _ hx
          clear HS hA hF hf
          go_wp2_with fail
          have hA3 := hA2
          have hF3 := hF2
          have ho3 := ho2
          clear hA2 hF2 ho2
          refine (HX _ _ ho3.rd).mono ?_
          rintro e w4 ⟨r4, rfl, _, hf4⟩
          have hx4 := (hf4.alloc (.cells #[.int .i64 1, .int .i64 3, .int .i64 0, .int .i64 (s + 1), .int .i64 5, .int .i64 5, .int .i64 0] 68)).alloc (.cells #[.int .u64 (u tg.1), .int .u64 (u tg.2)] 52)
          have hM5 := (Blk.new w4 #[.int .i64 1, .int .i64 3, .int .i64 0, .int .i64 (s + 1), .int .i64 5, .int .i64 5, .int .i64 0] 68).alloc (.cells #[.int .u64 (u tg.1), .int .u64 (u tg.2)] 52)
          have hA5 := hA3.kept hx4 (fun f => f)
          have hF5 := hF3.trans hx4
          clear HX ho3 hA3 hF3 hf4 hx4 c0
          go_wp2_with fail
          generalize hw5 : (w4.alloc (.cells #[.int .i64 1, .int .i64 3, .int .i64 0, .int .i64 (s + 1), .int .i64 5, .int .i64 5, .int .i64 0] 68)).alloc (.cells #[.int .u64 (u tg.1), .int .u64 (u tg.2)] 52) = w5 at *
          generalize hb4 : w4.heap.size = b4 at *
          clear hw5 hb4
          obtain ⟨m0, m1, m2, m3, m4, m5, m6⟩ := hM5.c7 (Fr.refl _ _)
          have HCW := HCH.out _ hF5
          have c0 := HCW j _ hx
          have HQ := sseq_any hA5
          have HF5 := Lib.hid hF5
          have HA5 := Lib.hid hA5
          have HCW' := Lib.hid HCW
          clear hA5 hF5 hM5 HCW
          go_loopw [14, 15] (fun n i wr => ∃ k : Nat, k ≤ j ∧ i = .int .i64 k ∧ n = .int .i64 ((j : Int) + 1 + (cntT L k : Int)) ∧ wr = w5) (fun _ i _ => j - (intOf i).toNat)
          case atStart => exact ⟨0, Nat.zero_le _, rfl, by simp [cntT], rfl⟩
          case round =>
            obtain ⟨k, hk, rfl, rfl, rfl⟩ := hrel
            by_cases hlt2 : k < j
            · have hd3 : decide ((k : Int) < (j : Int)) = true := by simp; omega
              obtain ⟨y, hy⟩ : ∃ y, L[k]? = some y := ⟨_, List.getElem?_eq_getElem (by omega)⟩
              have ck := HCW'.out k _ hy
              have hck := cntT_le L k
              have hcsk := cntT_succ hy
              have hw2 : IntKind.i64.wrap ((k : Int) + 1) = (k : Int) + 1 := IntWalk.i64_in _ (by omega)
              have hw3 : IntKind.i64.wrap ((j : Int) + 1 + (cntT L k : Int) + 1) = (j : Int) + 1 + (cntT L k : Int) + 1 := IntWalk.i64_in _ (by omega)
              have hkl : (k : Int) < (L.length : Int) := by omega
              cases y
              · go_wp2_with fail
                exact ⟨⟨k + 1, by omega, by simp, by rw [hcsk]; simp, trivial⟩, by simp [intOf]; omega⟩
              · go_wp2_with fail
                exact ⟨⟨k + 1, by omega, by simp, by rw [hcsk]; simp; omega, trivial⟩, by simp [intOf]; omega⟩
            · obtain rfl : k = j := by omega
              have hd3 : decide ((k : Int) < (k : Int)) = false := by simp
              have hd4 : decide (k < k) = false := by simp
              have hw4 : IntKind.i64.wrap ((k : Int) + 1 + (cntT L k : Int) + 1) = (k : Int) + 1 + (cntT L k : Int) + 1 := IntWalk.i64_in _ (by omega)
              have hs := HSQ.out
              have hs1 : s + 1 = (k : Int) + 1 + (cntT L k : Int) := by omega
              have hs2 : s + 1 + 1 = (k : Int) + 1 + (cntT L k : Int) + 1 := by omega
              rw [hs1] at m3 HQ
              clear hs hs1 hs2
              go_wp2_with fail
              refine HQ.mono ?_
              rintro e w6 ⟨rfl, rfl⟩
              go_wp2_with fail
              exact ⟨⟨k + 1, by omega, by simp, by have := HA5.out; rw [hcs]; simpa [HSQ.out, Int.add_assoc, Int.add_comm, Int.add_left_comm] using this, HF5.out⟩, by simp [intOf]; omega⟩
      · skip
        as_aux_lemma =>
          have HB : ∀ wa, SlAt wa b seed 3 (0, s + 1) → Calls Try.prog 79 #[.pointer (some ⟨b, 0, none⟩), .int .i64 5] wa fun e w' => ∃ v, e = .returned (.tuple #[v, .int .i64 0]) ∧ Own w' wa.heap.size 5 v ((sealB (ofW seed 3 0) (nxM 3 (0, s + 1) 3 0 5 0 0)).map bv) ∧ SlAt w' b seed 3 (0, s + 1 + 1) ∧ Fr (one_ b) wa w' := fun wa h => by
            have := sbeat_any h 5
            obtain ⟨q1, q2, q3, _⟩ := sl_ok hm3 (ofW seed 3 0) (0, s + 1)
            dsimp only at this
            rw [q1, q2, q3] at this
            exact this
          have HX : ∀ (wa : World) (v : Value), Rd wa v ((sealB (ofW seed 3 0) (nxM 3 (0, s + 1) 3 0 5 0 0)).map bv) → Calls Try.prog 59 #[v] wa fun e w' => ∃ r, e = .returned (.tuple #[.agg #[.int .i64 3, .int .i64 3, .int .i64 0, .int .i64 (s + 1 + 1), .int .i64 5, .int .i64 0, .int .i64 0], r, keyv (tagW (ofW seed 3 0) (msgB (nxM 3 (0, s + 1) 3 0 5 0 0))), .int .i64 0]) ∧ Own w' wa.heap.size 5 r ((msgB (nxM 3 (0, s + 1) 3 0 5 0 0)).map bv) ∧ Fr none_ wa w' := fun wa v h => split_seal _ _ hm3 v wa h
          generalize tagW (ofW seed 3 0) (msgB (nxM 3 (0, s + 1) 3 0 5 0 0)) = tg at *
          generalize sealB (ofW seed 3 0) (nxM 3 (0, s + 1) 3 0 5 0 0) = sb at *
          generalize msgB (nxM 3 (0, s + 1) 3 0 5 0 0) = mb at *
          clear hm1 hm3
          unfold keyv at *
          have c0 := HCH.out _ hF j _ hx
          go_wp2_with fail
          refine (HS _ hA).mono ?_
          rintro e w2 ⟨v2, rfl, ho2, hA2, hf⟩
          have hF2 := hF.step hf h1
          have c0 := HCH.out _ hF2 j _ hx
          clear HS hA hF hf
          go_wp2_with fail
          refine (HB _ hA2).mono ?_
          rintro e w3 ⟨v3, rfl, ho3, hA3, hf⟩
          have hF3 := hF2.step hf h1
          clear HB hA2 hF2 hf ho2
          go_wp2_with fail
          refine (HX _ _ ho3.rd).mono ?_
          rintro e w4 ⟨r4, rfl, _, hf4⟩
          have hx4 := (hf4.alloc (.cells #[.int .i64 3, .int .i64 3, .int .i64 0, .int .i64 (s + 1 + 1), .int .i64 5, .int .i64 0, .int .i64 0] 68)).alloc (.cells #[.int .u64 (u tg.1), .int .u64 (u tg.2)] 52)
          have hM5 := (Blk.new w4 #[.int .i64 3, .int .i64 3, .int .i64 0, .int .i64 (s + 1 + 1), .int .i64 5, .int .i64 0, .int .i64 0] 68).alloc (.cells #[.int .u64 (u tg.1), .int .u64 (u tg.2)] 52)
          have hA5 := hA3.kept hx4 (fun f => f)
          have hF5 := hF3.trans hx4
          clear HX ho3 hA3 hF3 hf4 hx4 c0
          go_wp2_with fail
          generalize hw5 : (w4.alloc (.cells #[.int .i64 3, .int .i64 3, .int .i64 0, .int .i64 (s + 1 + 1), .int .i64 5, .int .i64 0, .int .i64 0] 68)).alloc (.cells #[.int .u64 (u tg.1), .int .u64 (u tg.2)] 52) = w5 at *
          generalize hb4 : w4.heap.size = b4 at *
          clear hw5 hb4
          obtain ⟨m0, m1, m2, m3, m4, m5, m6⟩ := hM5.c7 (Fr.refl _ _)
          have HCW := HCH.out _ hF5
          have c0 := HCW j _ hx
          have HQ := sseq_any hA5
          have HF5 := Lib.hid hF5
          have HA5 := Lib.hid hA5
          have HCW' := Lib.hid HCW
          clear hA5 hF5 hM5 HCW
          go_loopw [14, 15] (fun n i wr => ∃ k : Nat, k ≤ j ∧ i = .int .i64 k ∧ n = .int .i64 ((j : Int) + 1 + (cntT L k : Int)) ∧ wr = w5) (fun _ i _ => j - (intOf i).toNat)
          case atStart => exact ⟨0, Nat.zero_le _, rfl, by simp [cntT], rfl⟩
          case round =>
            obtain ⟨k, hk, rfl, rfl, rfl⟩ := hrel
            by_cases hlt2 : k < j
            · have hd3 : decide ((k : Int) < (j : Int)) = true := by simp; omega
              obtain ⟨y, hy⟩ : ∃ y, L[k]? = some y := ⟨_, List.getElem?_eq_getElem (by omega)⟩
              have ck := HCW'.out k _ hy
              have hck := cntT_le L k
              have hcsk := cntT_succ hy
              have hw2 : IntKind.i64.wrap ((k : Int) + 1) = (k : Int) + 1 := IntWalk.i64_in _ (by omega)
              have hw3 : IntKind.i64.wrap ((j : Int) + 1 + (cntT L k : Int) + 1) = (j : Int) + 1 + (cntT L k : Int) + 1 := IntWalk.i64_in _ (by omega)
              have hkl : (k : Int) < (L.length : Int) := by omega
              cases y
              · go_wp2_with fail
                exact ⟨⟨k + 1, by omega, by simp, by rw [hcsk]; simp, trivial⟩, by simp [intOf]; omega⟩
              · go_wp2_with fail
                exact ⟨⟨k + 1, by omega, by simp, by rw [hcsk]; simp; omega, trivial⟩, by simp [intOf]; omega⟩
            · obtain rfl : k = j := by omega
              have hd3 : decide ((k : Int) < (k : Int)) = false := by simp
              have hd4 : decide (k < k) = false := by simp
              have hw4 : IntKind.i64.wrap ((k : Int) + 1 + (cntT L k : Int) + 1) = (k : Int) + 1 + (cntT L k : Int) + 1 := IntWalk.i64_in _ (by omega)
              have hs := HSQ.out
              have hs1 : s + 1 = (k : Int) + 1 + (cntT L k : Int) := by omega
              have hs2 : s + 1 + 1 = (k : Int) + 1 + (cntT L k : Int) + 1 := by omega
              rw [hs2] at m3 HQ
              clear hs hs1 hs2
              go_wp2_with fail
              refine HQ.mono ?_
              rintro e w6 ⟨rfl, rfl⟩
              go_wp2_with fail
              exact ⟨⟨k + 1, by omega, by simp, by have := HA5.out; rw [hcs]; simpa [HSQ.out, Int.add_assoc, Int.add_comm, Int.add_left_comm] using this, HF5.out⟩, by simp [intOf]; omega⟩
    · have hd : decide ((j : Int) < (L.length : Int)) = false := by simp; omega
      have hd' : decide (j < L.length) = false := decide_eq_false hlt
      have HF := Lib.hid hF
      clear hA hF hlt
      go_wp2_with fail
      refine (HT _).mono ?_
      rintro e w3 ⟨rfl, hf⟩
      go_wp2_with fail
      go_ret
      exact ⟨rfl, HF.out.trans hf⟩

namespace sealBeats
open Go Go.ChangeShapes Go.WideShapes Go.ChangeAt Go.RowKit
set_option linter.unusedVariables false
set_option maxRecDepth 100000 in
theorem lifted (os : Os) (started : os.Started) (H : Type) (enc : TypeId × Value → H) :
    ReturnsInHanded {} Try.checked os 26 .any (Rows.sealBeatsSpec.pre6 enc Try.prog Try.f26 Rows.sealBeatsRow.domain false) (Rows.sealBeatsSpec.post enc Try.prog Try.f26 false true false false) := by
  refine returnsInHanded_of_change (C := Try.checked) owned started (by kernel_rfl) Try.func26
    (ChangeSpec.witness6 (enc := enc) (C := Try.checked) false ⟨#[], #[.int .u64 0, .slice none 0 0], []⟩ 8 (by kernel_rfl) (by kernel_rfl) (by kernel_rfl) (by kernel_rfl)) ?_
  intro W base args ds gs before hval0 hW hcnd _
  have hval : ∀ (j : Nat) t v, Try.f26.params[j]? = some t → args[j]? = some v → Value.okWide Try.prog W .any base t v := hval0
  have hW' := hW
  obtain ⟨p, q, hA0, hV, rfl, hfz, hnd⟩ := hW
  have hA : DataW.TrodAll enc Try.prog W 0 (fun _ => true) true Try.f26.params.toList args.toList ds p := hA0
  rw [Try.params26] at hA hval
  obtain ⟨v0, vs0, d0, ds0, p0, q0, hargs, rfl, rfl, h0, r0⟩ := trodAll_cons hA
  obtain ⟨v1, vs1, d1, ds1, p1, q1, rfl, rfl, rfl, h1, r1⟩ := trodAll_cons r0
  obtain ⟨rfl, rfl, rfl⟩ := trodAll_nil r1
  obtain rfl : args = #[v0, v1] := by cases args; simp_all
  obtain ⟨rfl, rfl⟩ := trodVars_none hV
  have k0 := h0
  have lt0 : ∀ x ∈ p0, x.block < W.heap.size := by obtain ⟨m, hm⟩ := k0; exact DataW.trod_lt m _ _ _ hm
  have k1 := h1
  have lt1 : ∀ x ∈ p1, x.block < W.heap.size := by obtain ⟨m, hm⟩ := k1; exact DataW.trod_lt m _ _ _ hm
  obtain ⟨x0, rfl⟩ := open_word Try.underlying22 (hval 0 22 v0 rfl rfl) h0
  obtain ⟨x1, hr1⟩ := open_bools Try.underlying125 Try.underlying4 (by kernel_rfl) (hval 1 125 v1 rfl rfl) h1
  clear hA0 hval0
  refine (walk_SealBeats W x0 v1 x1 hr1).mono fun e W' ⟨he, fr⟩ => ?_
  subst he
  have bel := fr.below
  exact ⟨_, rfl, _, _, _, [], _, [], hW', trodAll_mk1 (shut_bool Try.underlying4 _), (trodAll_cons_mk (Below.trod laid (by kernel_rfl) (of_decide_eq_true (by kernel_rfl)) k0 bel lt0) (trodAll_cons_mk (Below.trod laid (by kernel_rfl) (of_decide_eq_true (by kernel_rfl)) k1 bel lt1) trodAll_mk0)), rfl, bel.frame _, fun h => by cases h⟩

theorem inPlace : Try.prog.inPlace 26 = ["sync/atomic.LoadInt64", "sync/atomic.AddInt64", "sync/atomic.StoreInt64"] := by kernel_rfl
theorem closed : joinedFacts Try.prog 26 Try.f26 Rows.sealBeatsSpec Rows.sealBeatsRow = true := by
  unfold joinedFacts
  repeat' (with_reducible refine and_mk ?_ ?_)
  all_goals first
    | with_reducible exact enters
    | with_reducible exact laid
    | with_reducible exact rowed
    | with_reducible exact noStops
    | with_reducible exact noKnobs
    | with_reducible exact heard
    | (rw [lifts]; as_aux_lemma => kernel_rfl)
    | (rw [makes]; as_aux_lemma => kernel_rfl)
    | (rw [plains]; as_aux_lemma => kernel_rfl)
    | (rw [inPlace]; as_aux_lemma => kernel_rfl)
    | as_aux_lemma => kernel_rfl
theorem named : Try.prog.funcNamed Rows.sealBeatsRow.func = some 26 := by kernel_rfl
theorem isOne : (Try.f26).isInstance Try.prog Rows.sealBeatsRow.origin Rows.sealBeatsRow.targs := of_decide_eq_true (by kernel_rfl)
theorem wraps : (Try.f26).isWrapper Try.prog Rows.sealBeatsRow.wrapper Rows.sealBeatsRow.mainSum := by unfold Func.isWrapper; first | (rw [if_pos (by decide +kernel)]; kernel_rfl) | (rw [if_neg (by decide +kernel)]; exact ⟨rfl, rfl⟩)
theorem over : Rows.sealBeatsRow.holds Try.pinned (OpenSpec.ofChange Rows.sealBeatsSpec) :=
  OpenClaim.holds_of_wide 26 Try.f26 rfl rfl rfl rfl rfl rfl rfl ⟨rfl, rfl, rfl, rfl, rfl⟩ rfl rfl rfl rfl rfl named Try.func26 closed
    isOne wraps
    (fun os started H enc _ => lifted os started H enc)

/-- THE STATEMENT. -/
theorem proved : Rows.SealBeatsSaid := over
#print axioms proved
end sealBeats
end Go.Proofs.Ytandenkoejbloaa
