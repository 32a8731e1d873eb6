/- For every input the law quorumitelaw7.SealNumbers returns true: each envelope of a generation has the next number; behind a rotation they begin anew; what is refused uses none up. Conditions: none. -/
import Derived.Test.YtandenkoejbloaaTold7
import Derived.Test.YtandenkoejbloaaFacts
import Derived.Test.YtandenkoejbloaaMore
import Derived.Test.YtandenkoejbloaaOpenL
namespace Go.Proofs.Ytandenkoejbloaa
open Go Go.RowKit
theorem may_true {m : Ms} (h : (1 ≤ m.kind ∧ m.kind ≤ 3) ∧ (0 ≤ m.who ∧ m.who ≤ 15) ∧ (0 ≤ m.gen ∧ m.gen ≤ 60000) ∧ (1 ≤ m.seq ∧ m.seq ≤ 1099511627776) ∧ (0 ≤ m.epoch ∧ m.epoch ≤ 1099511627776) ∧ (0 ≤ m.metric ∧ m.metric ≤ (if m.kind = 1 then 3 else 0)) ∧ (0 ≤ m.value ∧ m.value ≤ (if m.kind = 1 then 1099511627776 else 0))) : mayM m = true := by
  obtain ⟨⟨a1, a2⟩, ⟨b1, b2⟩, ⟨c1, c2⟩, ⟨d1, d2⟩, ⟨e1, e2⟩, ⟨f1, f2⟩, ⟨g1, g2⟩⟩ := h
  unfold mayM inI
  simp only [Bool.and_eq_true, decide_eq_true_eq]
  exact ⟨⟨⟨⟨⟨⟨⟨a1, a2⟩, ⟨b1, b2⟩⟩, ⟨c1, c2⟩⟩, ⟨d1, d2⟩⟩, ⟨e1, e2⟩⟩, ⟨f1, f2⟩⟩, ⟨g1, g2⟩⟩
set_option maxRecDepth 100000 in
set_option maxHeartbeats 60000000 in
theorem walk_SealNumbers (w : World) (seed : W) (x1 : Int) (_ : -9223372036854775808 ≤ x1) (_ : x1 ≤ 9223372036854775807) (v : Value) (L : List Int) (hL : (∀ n ∈ L, okN n) ∧ Rd w v (L.map (Value.int .i64))) :
    Calls Try.prog 24 #[.int .u64 (u seed), .int .i64 x1, v] w fun e w' => e = .returned (.bool true) ∧ Fr none_ w w' := by
  obtain ⟨hLo, hLr⟩ := hL
  obtain ⟨who, hwho, hmod⟩ := modN 16 (by decide) x1
  have hmod : (IntKind.u64.wrap x1).tmod 16 = (who : Int) := hmod
  have ew : IntKind.i64.wrap (who : Int) = who := IntWalk.i64_in _ (by omega)
  have HT : ∀ wa : World, Calls Try.prog 76 #[] wa fun e w' => e = .returned (.bool true) ∧ Fr none_ wa w' := told7_any
  have HN := fun wa => snew_ok seed who wa (by omega) (by omega)
  have HRD := Lib.hid hLr
  have hcap := hLr
  obtain ⟨ao, cap, rfl, hc1, hm1, _⟩ := hcap
  rw [List.length_map] at *
  unfold maxLen at hm1
  clear hLr
  go_enter Try.func24, Try.ntmps24
  go_wp2_with fail
  refine (HN _).mono ?_
  rintro e w1 ⟨b, rfl, hb, hA, hF⟩
  have h1 := none_of_one hb
  have HF := Lib.hid hF
  have HA := Lib.hid hA
  clear HN hA hF
  go_wp2_with fail
  go_loopw [9, 10, 11] (fun g n i wr => ∃ (j : Nat) (st : St), j ≤ L.length ∧ j ≤ 30 ∧ i = .int .i64 j ∧ g = .int .i64 st.1 ∧ n = .int .i64 st.2 ∧ st.1 ≤ j ∧ st.2 ≤ 2 * j ∧ SlAt wr b seed who st ∧ Fr none_ w wr) (fun _ _ i _ => L.length - (intOf i).toNat)
  case atStart => exact ⟨0, (0, 0), Nat.zero_le _, Nat.zero_le _, rfl, rfl, rfl, by simp, by simp, HA.out, HF.out⟩
  case round =>
    clear HA HF
    obtain ⟨j, st, hj, hj30, rfl, rfl, rfl, hg, hn, hA, hF⟩ := hrel
    by_cases hlt : j < L.length ∧ j < 30
    · have hd : decide ((j : Int) < (L.length : Int)) = true := by simp; omega
      have hd' : decide ((j : Int) < 30) = true := by simp; omega
      obtain ⟨x, hx⟩ : ∃ x, L[j]? = some x := ⟨_, List.getElem?_eq_getElem hlt.1⟩
      obtain ⟨k, hk, hmk⟩ := modN 5 (by decide) x
      have hmk : (IntKind.u64.wrap x).tmod 5 = (k : Int) := hmk
      have hR : Rd wr (.slice ao L.length cap) (L.map (Value.int .i64)) := by have := HRD.out.kept hF (fun _ _ _ _ f => f); simpa only [List.length_map] using this
      obtain ⟨pb, po, rfl, hpb, hc0⟩ := hR.at_ (j := j) (x := .int .i64 x) (by rw [List.getElem?_map, hx]; rfl)
      have hok := hA.2.2.1
      unfold okS at hok
      have hw1 : IntKind.i64.wrap ((j : Int) + 1) = (j : Int) + 1 := IntWalk.i64_in _ (by omega)
      have hw2 : IntKind.i64.wrap (st.2 + 1) = st.2 + 1 := IntWalk.i64_in _ (by omega)
      have hw3 : IntKind.i64.wrap (st.2 + 1 + 1) = st.2 + 1 + 1 := IntWalk.i64_in _ (by omega)
      have hw4 : IntKind.i64.wrap (st.1 + 1) = st.1 + 1 := IntWalk.i64_in _ (by omega)
      clear hR hmod ew
      by_cases hk0 : k = 0
      · subst hk0
        as_aux_lemma =>
          have HS : ∀ wa, SlAt wa b seed who st → Calls Try.prog 77 #[.pointer (some ⟨b, 0, none⟩), .int .i64 0, .int .i64 (-1), .int .i64 0] wa fun e w' => ∃ v, e = .returned (.tuple #[v, .int .i64 1]) ∧ SlAt w' b seed who st ∧ Fr (one_ b) wa w' := fun wa h => by
            have := ssample_any h 0 (-1) 0
            obtain ⟨q1, q2, q3, _⟩ := sl_no (show mayM (nxM who st 1 st.1 (-1) 0 0) = false from may_false (by unfold nxM; dsimp only; omega)) (ofW seed who st.1) st
            rw [q1, q2, q3] at this
            exact this.mono fun e w' ⟨v, a, _, c, d⟩ => ⟨v, a, c, d⟩
          go_wp2_with fail
          refine (HS _ hA).mono ?_
          rintro e w2 ⟨v2, rfl, hA2, hf2⟩
          have hF2 := hF.step hf2 h1
          have HQ := sseq_any hA2
          clear HS hA hF hf2 hc0
          go_wp2_with fail
          refine HQ.mono ?_
          rintro e w3 ⟨rfl, rfl⟩
          go_wp2_with fail
          exact ⟨⟨j + 1, st, by omega, by omega, by simp, rfl, rfl, by omega, by omega, hA2, hF2⟩, by simp [intOf]; omega⟩
      · have k0 : ((k : Int) == 0) = false := by simp; omega
        have hm1 : mayM (nxM who st 1 st.1 j 5 0) = true := may_true (by unfold nxM; dsimp only; rw [if_pos rfl, if_pos rfl]; omega)
        have HS : ∀ wa, SlAt wa b seed who st → Calls Try.prog 77 #[.pointer (some ⟨b, 0, none⟩), .int .i64 0, .int .i64 j, .int .i64 5] wa fun e w' => ∃ v, e = .returned (.tuple #[v, .int .i64 0]) ∧ Own w' wa.heap.size 5 v ((sealB (ofW seed who st.1) (nxM who st 1 st.1 j 5 0)).map bv) ∧ SlAt w' b seed who (st.1, st.2 + 1) ∧ Fr (one_ b) wa w' := fun wa h => by
          have := ssample_any h 0 j 5
          obtain ⟨q1, q2, q3, _⟩ := sl_ok hm1 (ofW seed who st.1) st
          rw [q1, q2, q3] at this
          exact this
        by_cases hk1 : k = 1
        · subst hk1
          as_aux_lemma =>
            have hm2 : mayM (nxM who (st.1, st.2 + 1) 2 (st.1 + 1) j 0 0) = true := may_true (by unfold nxM; dsimp only; rw [if_neg (by decide), if_neg (by decide)]; omega)
            have HR : ∀ wa, SlAt wa b seed who (st.1, st.2 + 1) → Calls Try.prog 81 #[.pointer (some ⟨b, 0, none⟩), .int .i64 j] wa fun e w' => ∃ v, e = .returned (.tuple #[v, .int .i64 0]) ∧ Own w' wa.heap.size 5 v ((sealB (ofW seed who st.1) (nxM who (st.1, st.2 + 1) 2 (st.1 + 1) j 0 0)).map bv) ∧ SlAt w' b seed who (st.1 + 1, 0) ∧ Fr (one_ b) wa w' := fun wa h => by
              have := srotate_any h j
              obtain ⟨q1, q2, _, q3⟩ := sl_ok hm2 (ofW seed who st.1) (st.1, st.2 + 1)
              dsimp only at this
              rw [q1, q2, q3] at this
              exact this
            have HX : ∀ (wa : World) (v : Value), Rd wa v ((sealB (ofW seed who st.1) (nxM who (st.1, st.2 + 1) 2 (st.1 + 1) j 0 0)).map bv) → Calls Try.prog 59 #[v] wa fun e w' => ∃ r, e = .returned (.tuple #[.agg #[.int .i64 2, .int .i64 who, .int .i64 (st.1 + 1), .int .i64 (st.2 + 1 + 1), .int .i64 j, .int .i64 0, .int .i64 0], r, keyv (tagW (ofW seed who st.1) (msgB (nxM who (st.1, st.2 + 1) 2 (st.1 + 1) j 0 0))), .int .i64 0]) ∧ Own w' wa.heap.size 5 r ((msgB (nxM who (st.1, st.2 + 1) 2 (st.1 + 1) j 0 0)).map bv) ∧ Fr none_ wa w' := fun wa v h => split_seal _ _ hm2 v wa h
            generalize tagW (ofW seed who st.1) (msgB (nxM who (st.1, st.2 + 1) 2 (st.1 + 1) j 0 0)) = tg at *
            generalize sealB (ofW seed who st.1) (nxM who (st.1, st.2 + 1) 2 (st.1 + 1) j 0 0) = sb at *
            generalize msgB (nxM who (st.1, st.2 + 1) 2 (st.1 + 1) j 0 0) = pb at *
            clear hm1 hm2
            unfold keyv at *
            go_wp2_with fail
            refine (HS _ hA).mono ?_
            rintro e w2 ⟨v2, rfl, _, hA2, hf2⟩
            have hF2 := hF.step hf2 h1
            clear HS hA hF hf2 hc0
            go_wp2_with fail
            refine (HR _ hA2).mono ?_
            rintro e w3 ⟨v3, rfl, ho3, hA3, hf3⟩
            have hF3 := hF2.step hf3 h1
            clear HR hA2 hF2 hf3
            go_wp2_with fail
            refine (HX _ _ ho3.rd).mono ?_
            rintro e w4 ⟨r4, rfl, _, hf4⟩
            have hx := (hf4.alloc (.cells #[.int .i64 2, .int .i64 who, .int .i64 (st.1 + 1), .int .i64 (st.2 + 1 + 1), .int .i64 j, .int .i64 0, .int .i64 0] 68)).alloc (.cells #[.int .u64 (u tg.1), .int .u64 (u tg.2)] 52)
            have hM5 := (Blk.new w4 #[.int .i64 2, .int .i64 who, .int .i64 (st.1 + 1), .int .i64 (st.2 + 1 + 1), .int .i64 j, .int .i64 0, .int .i64 0] 68).alloc (.cells #[.int .u64 (u tg.1), .int .u64 (u tg.2)] 52)
            have hA5 := hA3.kept hx (fun f => f)
            have hF5 := hF3.trans hx
            obtain ⟨m0, m1, m2, m3, m4, m5, m6⟩ := hM5.c7 (Fr.refl _ _)
            clear HX ho3 hA3 hF3 hf4 hx hM5
            go_wp2_with fail
            have HG := sgen_any hA5
            have HQ := sseq_any hA5
            go_wp2_with fail
            refine HG.mono ?_
            rintro e w6 ⟨rfl, rfl⟩
            go_wp2_with fail
            refine HQ.mono ?_
            rintro e w6 ⟨rfl, rfl⟩
            go_wp2_with fail
            exact ⟨⟨j + 1, (st.1 + 1, 0), by omega, by omega, by simp, rfl, rfl, by simp; omega, by simp; omega, hA5, hF5⟩, by simp [intOf]; omega⟩
        · have k1 : ((k : Int) == 1) = false := by simp; omega
          as_aux_lemma =>
            have HX : ∀ (wa : World) (v : Value), Rd wa v ((sealB (ofW seed who st.1) (nxM who st 1 st.1 j 5 0)).map bv) → Calls Try.prog 59 #[v] wa fun e w' => ∃ r, e = .returned (.tuple #[.agg #[.int .i64 1, .int .i64 who, .int .i64 st.1, .int .i64 (st.2 + 1), .int .i64 j, .int .i64 5, .int .i64 0], r, keyv (tagW (ofW seed who st.1) (msgB (nxM who st 1 st.1 j 5 0))), .int .i64 0]) ∧ Own w' wa.heap.size 5 r ((msgB (nxM who st 1 st.1 j 5 0)).map bv) ∧ Fr none_ wa w' := fun wa v h => split_seal _ _ hm1 v wa h
            generalize tagW (ofW seed who st.1) (msgB (nxM who st 1 st.1 j 5 0)) = tg at *
            generalize sealB (ofW seed who st.1) (nxM who st 1 st.1 j 5 0) = sb at *
            generalize msgB (nxM who st 1 st.1 j 5 0) = pb at *
            clear hm1
            unfold keyv at *
            go_wp2_with fail
            refine (HS _ hA).mono ?_
            rintro e w3 ⟨v3, rfl, ho3, hA3, hf2⟩
            have hF3 := hF.step hf2 h1
            clear HS hA hF hf2 hc0
            go_wp2_with fail
            refine (HX _ _ ho3.rd).mono ?_
            rintro e w4 ⟨r4, rfl, _, hf4⟩
            have hx := (hf4.alloc (.cells #[.int .i64 1, .int .i64 who, .int .i64 st.1, .int .i64 (st.2 + 1), .int .i64 j, .int .i64 5, .int .i64 0] 68)).alloc (.cells #[.int .u64 (u tg.1), .int .u64 (u tg.2)] 52)
            have hM5 := (Blk.new w4 #[.int .i64 1, .int .i64 who, .int .i64 st.1, .int .i64 (st.2 + 1), .int .i64 j, .int .i64 5, .int .i64 0] 68).alloc (.cells #[.int .u64 (u tg.1), .int .u64 (u tg.2)] 52)
            have hA5 := hA3.kept hx (fun f => f)
            have hF5 := hF3.trans hx
            obtain ⟨m0, m1, m2, m3, m4, m5, m6⟩ := hM5.c7 (Fr.refl _ _)
            clear HX ho3 hA3 hF3 hf4 hx hM5
            go_wp2_with fail
            have HG := sgen_any hA5
            have HQ := sseq_any hA5
            go_wp2_with fail
            refine HG.mono ?_
            rintro e w6 ⟨rfl, rfl⟩
            go_wp2_with fail
            refine HQ.mono ?_
            rintro e w6 ⟨rfl, rfl⟩
            go_wp2_with fail
            exact ⟨⟨j + 1, (st.1, st.2 + 1), by omega, by omega, by simp, rfl, rfl, by simp; omega, by simp; omega, hA5, hF5⟩, by simp [intOf]; omega⟩
    · have HF := Lib.hid hF
      by_cases hl1 : j < L.length
      · have hd : decide ((j : Int) < (L.length : Int)) = true := by simp; omega
        have hd' : decide ((j : Int) < 30) = false := by simp; omega
        have hd2 : decide (j < L.length) = true := decide_eq_true hl1
        have hd3 : decide (j < 30) = false := by simp; omega
        clear hA hF
        go_wp2_with fail
        refine (HT _).mono ?_
        rintro e w2 ⟨rfl, hf⟩
        go_wp2_with fail
        go_ret
        exact ⟨rfl, HF.out.trans hf⟩
      · have hd : decide ((j : Int) < (L.length : Int)) = false := by simp; omega
        have hd2 : decide (j < L.length) = false := decide_eq_false hl1
        clear hA hF
        go_wp2_with fail
        refine (HT _).mono ?_
        rintro e w2 ⟨rfl, hf⟩
        go_wp2_with fail
        go_ret
        exact ⟨rfl, HF.out.trans hf⟩

namespace sealNumbers
open Go Go.ChangeShapes Go.WideShapes Go.ChangeAt Go.RowKit
set_option linter.unusedVariables false
set_option maxRecDepth 100000 in
theorem lifted (os : Os) (started : os.Started) (H : Type) (enc : TypeId × Value → H) :
    ReturnsInHanded {} Try.checked os 24 .any (Rows.sealNumbersSpec.pre6 enc Try.prog Try.f24 Rows.sealNumbersRow.domain false) (Rows.sealNumbersSpec.post enc Try.prog Try.f24 false true false false) := by
  refine returnsInHanded_of_change (C := Try.checked) owned started (by kernel_rfl) Try.func24
    (ChangeSpec.witness6 (enc := enc) (C := Try.checked) false ⟨#[], #[.int .u64 0, .int .i64 0, .slice none 0 0], []⟩ 8 (by kernel_rfl) (by kernel_rfl) (by kernel_rfl) (by kernel_rfl)) ?_
  intro W base args ds gs before hval0 hW hcnd _
  have hval : ∀ (j : Nat) t v, Try.f24.params[j]? = some t → args[j]? = some v → Value.okWide Try.prog W .any base t v := hval0
  have hW' := hW
  obtain ⟨p, q, hA0, hV, rfl, hfz, hnd⟩ := hW
  have hA : DataW.TrodAll enc Try.prog W 0 (fun _ => true) true Try.f24.params.toList args.toList ds p := hA0
  rw [Try.params24] at hA hval
  obtain ⟨v0, vs0, d0, ds0, p0, q0, hargs, rfl, rfl, h0, r0⟩ := trodAll_cons hA
  obtain ⟨v1, vs1, d1, ds1, p1, q1, rfl, rfl, rfl, h1, r1⟩ := trodAll_cons r0
  obtain ⟨v2, vs2, d2, ds2, p2, q2, rfl, rfl, rfl, h2, r2⟩ := trodAll_cons r1
  obtain ⟨rfl, rfl, rfl⟩ := trodAll_nil r2
  obtain rfl : args = #[v0, v1, v2] := by cases args; simp_all
  obtain ⟨rfl, rfl⟩ := trodVars_none hV
  have k0 := h0
  have lt0 : ∀ x ∈ p0, x.block < W.heap.size := by obtain ⟨m, hm⟩ := k0; exact DataW.trod_lt m _ _ _ hm
  have k1 := h1
  have lt1 : ∀ x ∈ p1, x.block < W.heap.size := by obtain ⟨m, hm⟩ := k1; exact DataW.trod_lt m _ _ _ hm
  have k2 := h2
  have lt2 : ∀ x ∈ p2, x.block < W.heap.size := by obtain ⟨m, hm⟩ := k2; exact DataW.trod_lt m _ _ _ hm
  obtain ⟨x0, rfl⟩ := open_word Try.underlying22 (hval 0 22 v0 rfl rfl) h0
  obtain ⟨x1, rfl, bl1, bh1⟩ := open_num Try.underlying3 (hval 1 3 v1 rfl rfl) h1
  obtain ⟨x2, hr2⟩ := open_nums Try.underlying96 Try.underlying3 (by kernel_rfl) (hval 2 96 v2 rfl rfl) h2
  clear hA0 hval0
  refine (walk_SealNumbers W x0 x1 bl1 bh1 v2 x2 hr2).mono fun e W' ⟨he, fr⟩ => ?_
  subst he
  have bel := fr.below
  exact ⟨_, rfl, _, _, _, [], _, [], hW', trodAll_mk1 (shut_bool Try.underlying4 _), (trodAll_cons_mk (Below.trod laid (by kernel_rfl) (of_decide_eq_true (by kernel_rfl)) k0 bel lt0) (trodAll_cons_mk (Below.trod laid (by kernel_rfl) (of_decide_eq_true (by kernel_rfl)) k1 bel lt1) (trodAll_cons_mk (Below.trod laid (by kernel_rfl) (of_decide_eq_true (by kernel_rfl)) k2 bel lt2) trodAll_mk0))), rfl, bel.frame _, fun h => by cases h⟩

theorem inPlace : Try.prog.inPlace 24 = ["sync/atomic.LoadInt64", "sync/atomic.AddInt64", "sync/atomic.StoreInt64"] := by kernel_rfl
theorem closed : joinedFacts Try.prog 24 Try.f24 Rows.sealNumbersSpec Rows.sealNumbersRow = true := by
  unfold joinedFacts
  repeat' (with_reducible refine and_mk ?_ ?_)
  all_goals first
    | with_reducible exact enters
    | with_reducible exact laid
    | with_reducible exact rowed
    | with_reducible exact noStops
    | with_reducible exact noKnobs
    | with_reducible exact heard
    | (rw [lifts]; as_aux_lemma => kernel_rfl)
    | (rw [makes]; as_aux_lemma => kernel_rfl)
    | (rw [plains]; as_aux_lemma => kernel_rfl)
    | (rw [inPlace]; as_aux_lemma => kernel_rfl)
    | as_aux_lemma => kernel_rfl
theorem named : Try.prog.funcNamed Rows.sealNumbersRow.func = some 24 := by kernel_rfl
theorem isOne : (Try.f24).isInstance Try.prog Rows.sealNumbersRow.origin Rows.sealNumbersRow.targs := of_decide_eq_true (by kernel_rfl)
theorem wraps : (Try.f24).isWrapper Try.prog Rows.sealNumbersRow.wrapper Rows.sealNumbersRow.mainSum := by unfold Func.isWrapper; first | (rw [if_pos (by decide +kernel)]; kernel_rfl) | (rw [if_neg (by decide +kernel)]; exact ⟨rfl, rfl⟩)
theorem over : Rows.sealNumbersRow.holds Try.pinned (OpenSpec.ofChange Rows.sealNumbersSpec) :=
  OpenClaim.holds_of_wide 24 Try.f24 rfl rfl rfl rfl rfl rfl rfl ⟨rfl, rfl, rfl, rfl, rfl⟩ rfl rfl rfl rfl rfl named Try.func24 closed
    isOne wraps
    (fun os started H enc _ => lifted os started H enc)

/-- THE STATEMENT. -/
theorem proved : Rows.SealNumbersSaid := over
#print axioms proved
end sealNumbers
end Go.Proofs.Ytandenkoejbloaa
