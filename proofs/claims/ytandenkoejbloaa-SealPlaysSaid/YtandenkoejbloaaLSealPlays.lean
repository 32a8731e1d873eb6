/- For every input the law quorumitelaw7.SealPlays returns true: envelopes, numbers, generations, are what the document says, step by step. Conditions: none. -/
import Derived.Test.YtandenkoejbloaaTold7
import Derived.Test.YtandenkoejbloaaRseal
import Derived.Test.YtandenkoejbloaaFacts
import Derived.Test.YtandenkoejbloaaOpenL
namespace Go.Proofs.Ytandenkoejbloaa
open Go Go.RowKit
theorem none_of_oneR {b B : Nat} (h : B ≤ b) : ∀ i, i < B → oneR b i → none_ i := by
  intro i hi ht
  unfold oneR at ht; omega
set_option maxRecDepth 100000 in
set_option maxHeartbeats 60000000 in
theorem walk_SealPlays (w : World) (seed : W) (who : Int) (nl : -9223372036854775808 ≤ who) (nh : who ≤ 9223372036854775807) (v : Value) (L : List Q4) (hL : Rq w v L) :
    Calls Try.prog 23 #[.int .u64 (u seed), .int .i64 who, v] w fun e w' => e = .returned (.bool true) ∧ Fr none_ w w' := by
  obtain ⟨ao, cap, rfl, hc1, hm1, hcell⟩ := hL
  unfold maxLen at hm1
  have HT : ∀ wa : World, Calls Try.prog 76 #[] wa fun e w' => e = .returned (.bool true) ∧ Fr none_ wa w' := told7_any
  go_enter Try.func23, Try.ntmps23
  by_cases hbad : who < 0 ∨ 16 ≤ who
  · have HN1 := fun wa => snew_bad seed who wa hbad
    have HN2 := fun wa => fsnew_bad seed who wa hbad
    clear hcell
    go_wp2_with fail
    refine (HN1 _).mono ?_
    rintro e w1 ⟨rfl, rfl⟩
    go_wp2_with fail
    refine (HN2 _).mono ?_
    rintro e w1 ⟨rfl, rfl⟩
    go_wp2_with fail
    refine (HT _).mono ?_
    rintro e w2 ⟨rfl, hf⟩
    go_wp2_with fail
    go_ret
    exact ⟨rfl, hf⟩
  have HN1 := fun wa => snew_ok seed who wa (by omega) (by omega)
  have HN2 := fun wa => fsnew_ok seed who wa (by omega) (by omega)
  go_wp2_with fail
  refine (HN1 _).mono ?_
  rintro e w1 ⟨b, rfl, hb, hA, hF⟩
  have h1 := none_of_one hb
  go_wp2_with fail
  refine (HN2 _).mono ?_
  rintro e w2 ⟨fb, rfl, hfb, hA2, hF2⟩
  have hbl := hA.lt
  have hne : fb ≠ b := by omega
  have hwfb : w.heap.size ≤ fb := by have := hF.size; omega
  have h2 := none_of_oneR hwfb
  have hS := hA.kept hF2 (fun f => f)
  have HF := Lib.hid (hF.trans hF2)
  clear hA hF hF2 hfb hbl HN1 HN2
  by_cases hbig : 40 < L.length
  · have hd : decide ((40 : Int) < (L.length : Int)) = true := by simp; omega
    clear hcell hS hA2
    go_wp2_with fail
    refine (HT _).mono ?_
    rintro e w3 ⟨rfl, hf⟩
    go_wp2_with fail
    go_ret
    exact ⟨rfl, HF.out.trans hf⟩
  have hd : decide ((40 : Int) < (L.length : Int)) = false := by simp; omega
  have HL := Lib.hid (show L.length ≤ 40 by omega)
  go_wp2_with fail
  clear hd hbig
  go_loopw [9] (fun i wr => ∃ (j : Nat) (st : St), j ≤ L.length ∧ i = .int .i64 j ∧ SlAt wr b seed who st ∧ RlAt wr fb seed who st ∧ Fr none_ w wr) (fun i _ => L.length - (intOf i).toNat)
  case atStart => exact ⟨0, (0, 0), Nat.zero_le _, rfl, hS, hA2, HF.out⟩
  case round =>
    clear hS hA2 HF
    obtain ⟨j, st, hj, rfl, hS, hR, hF⟩ := hrel
    by_cases hlt : j < L.length
    · have hd : decide ((j : Int) < (L.length : Int)) = true := by simp; omega
      have hw1 : IntKind.i64.wrap ((j : Int) + 1) = (j : Int) + 1 := IntWalk.i64_in _ (by have := HL.out; omega)
      obtain ⟨q, hq⟩ : ∃ q, L[j]? = some q := ⟨_, List.getElem?_eq_getElem hlt⟩
      obtain ⟨hqo, pb, po, rfl, hpb, p0, p1, p2, p3⟩ := hcell j q hq
      have HQ : ∀ w', Fr none_ w w' → w'.cell? ⟨pb, po + j * 4, none⟩ = some (.int .i64 q.a) ∧ w'.cell? ⟨pb, po + j * 4 + 1, none⟩ = some (.int .i64 q.b) ∧ w'.cell? ⟨pb, po + j * 4 + 2, none⟩ = some (.int .i64 q.c) ∧ w'.cell? ⟨pb, po + j * 4 + 3, none⟩ = some (.int .i64 q.d) := fun w' hf =>
        ⟨(hf.cell (p := ⟨pb, po + j * 4, none⟩) hpb (fun f => f)).trans p0, (hf.cell (p := ⟨pb, po + j * 4 + 1, none⟩) hpb (fun f => f)).trans p1, (hf.cell (p := ⟨pb, po + j * 4 + 2, none⟩) hpb (fun f => f)).trans p2, (hf.cell (p := ⟨pb, po + j * 4 + 3, none⟩) hpb (fun f => f)).trans p3⟩
      obtain ⟨q0, q1, q2, q3⟩ := HQ wr hF
      have hfl := hR.lt
      have hwl := hF.size
      have HCELL := Lib.hid hcell
      clear hcell p0 p1 p2 p3 hq
      by_cases hk5 : bits .and .i64 q.a 7 < 5
      · have dk : decide (bits .and .i64 q.a 7 < 5) = true := decide_eq_true hk5
        as_aux_lemma =>
          have HS : ∀ wa, SlAt wa b seed who st → Calls Try.prog 77 #[.pointer (some ⟨b, 0, none⟩), .int .i64 q.b, .int .i64 q.c, .int .i64 q.d] wa fun e w' => ∃ v, e = .returned (.tuple #[v, .int .i64 (slC (nxM who st 1 st.1 q.c q.d q.b))]) ∧ Own w' wa.heap.size 5 v ((slB (ofW seed who st.1) (nxM who st 1 st.1 q.c q.d q.b)).map bv) ∧ SlAt w' b seed who (upS (nxM who st 1 st.1 q.c q.d q.b) st) ∧ Fr (one_ b) wa w' := fun wa h => ssample_any h q.b q.c q.d
          have HR : ∀ wa, RlAt wa fb seed who st → Calls Try.prog 78 #[.pointer (some ⟨fb, 0, none⟩), .int .i64 q.b, .int .i64 q.c, .int .i64 q.d] wa fun e w' => e = .returned (.tuple #[.string (bs (slB (ofW seed who st.1) (nxM who st 1 st.1 q.c q.d q.b))), .int .i64 (slC (nxM who st 1 st.1 q.c q.d q.b))]) ∧ RlAt w' fb seed who (upS (nxM who st 1 st.1 q.c q.d q.b) st) ∧ Fr (oneR fb) wa w' := fun wa h => fsample_any h q.b q.c q.d
          generalize slC (nxM who st 1 st.1 q.c q.d q.b) = code at *
          generalize slB (ofW seed who st.1) (nxM who st 1 st.1 q.c q.d q.b) = sb at *
          generalize upS (nxM who st 1 st.1 q.c q.d q.b) st = st' at *
          go_wp2_with fail
          refine region_pi [16] [5, 10, 15] [0, 1, 2, 3, 4, 5, 6, 7, 8, 9, 10, 11, 12, 13, 14, 15, 16, 17, 18, 19, 20, 21] (fun _ => True) (by as_aux_lemma => kernel_rfl) (by as_aux_lemma => kernel_rfl) (by as_aux_lemma => kernel_rfl) (by as_aux_lemma => kernel_rfl) (by as_aux_lemma => kernel_rfl) trivial ?_
          repeat (first
            | (refine pi_float (v := ?_) (a' := ?_) rfl rfl rfl rfl ?_ ?_ ?_
               rotate_left 2
               · (intro w' _; go_simp; with_reducible rfl)
               · (simp only [Act.put, List.setIfInBounds_toArray, List.set_cons_zero, List.set_cons_succ]; rfl))
            | (refine pi_bound (v := ?_) (a' := ?_) rfl rfl rfl rfl ?_ ?_ ?_
               rotate_left 2
               · (go_simp; with_reducible rfl)
               · (simp only [Act.put, List.setIfInBounds_toArray, List.set_cons_zero, List.set_cons_succ]; rfl))
            | (refine pi_acts rfl rfl rfl (fun K hK => ?_)
               go_simp; try (go_wp2_with ((go_at_call 77; refine (HS _ (hS.kept (Fr.refl none_ wr).drew (fun f => f))).mono ?_; rintro e w3 ⟨v3, rfl, ho3, hS3, hf3⟩)))
               refine hK.out _ _ trivial ?_
               clear hK K))
          refine pi_done ?_
          replace hf3 : Fr (one_ b) wr w3 := (Fr.refl (one_ b) wr).drew.trans hf3
          replace ho3 : Own w3 wr.heap.size 5 v3 (sb.map bv) := ho3
          have hR3 := hR.kept hf3 hne
          have hF3 := hF.step hf3 h1
          obtain ⟨q0', q1', q2', q3'⟩ := HQ _ hF3
          clear hS hR hF q0 q1 q2 q3 HS
          go_wp2_with fail
          refine region_pi [16] [5, 10, 15] [0, 1, 2, 3, 4, 5, 6, 7, 8, 9, 10, 11, 12, 13, 14, 15, 16, 17, 18, 19, 20, 21] (fun _ => True) (by as_aux_lemma => kernel_rfl) (by as_aux_lemma => kernel_rfl) (by as_aux_lemma => kernel_rfl) (by as_aux_lemma => kernel_rfl) (by as_aux_lemma => kernel_rfl) trivial ?_
          repeat (first
            | (refine pi_float (v := ?_) (a' := ?_) rfl rfl rfl rfl ?_ ?_ ?_
               rotate_left 2
               · (intro w' _; go_simp; with_reducible rfl)
               · (simp only [Act.put, List.setIfInBounds_toArray, List.set_cons_zero, List.set_cons_succ]; rfl))
            | (refine pi_bound (v := ?_) (a' := ?_) rfl rfl rfl rfl ?_ ?_ ?_
               rotate_left 2
               · (go_simp; with_reducible rfl)
               · (simp only [Act.put, List.setIfInBounds_toArray, List.set_cons_zero, List.set_cons_succ]; rfl))
            | (refine pi_acts rfl rfl rfl (fun K hK => ?_)
               go_simp; try (go_wp2_with ((go_at_call 78; refine (HR _ (hR3.kept (Fr.refl none_ w3).drew (fun f => f))).mono ?_; rintro e w4 ⟨rfl, hR4, hf4⟩)))
               refine hK.out _ _ trivial ?_
               clear hK K))
          refine pi_done ?_
          replace hf4 : Fr (oneR fb) w3 w4 := (Fr.refl (oneR fb) w3).drew.trans hf4
          have hS4 := hS3.kept hf4 (fun e => hne e.symm)
          have ho4 := ho3.kept hf4 (fun k hk hx => by have := (ho3.blk k hk).1; unfold oneR at hx; omega)
          have hF4 := hF3.step hf4 h2
          clear hR3 hS3 hF3 hf3 hf4 ho3 q0' q1' q2' q3' HR
          have hG4 : Calls Try.prog 83 #[.pointer (some ⟨b, 0, none⟩)] w4.drew fun e w' => e = .returned (.int .i64 st'.1) ∧ w4.drew = w' := sgen_any (hS4.kept (Fr.refl none_ w4).drew (fun f => f))
          have hQ4 : Calls Try.prog 84 #[.pointer (some ⟨b, 0, none⟩)] w4.drew fun e w' => e = .returned (.int .i64 st'.2) ∧ w4.drew = w' := sseq_any (hS4.kept (Fr.refl none_ w4).drew (fun f => f))
          obtain ⟨_, _, r2, r3⟩ := hR4.head
          have HU := Lib.hid (show w4.drew.cell? ⟨fb, 2, none⟩ = some (.int .i64 st'.1) ∧ w4.drew.cell? ⟨fb, 3, none⟩ = some (.int .i64 st'.2) from ⟨r2, r3⟩)
          have hv : Rd w4.drew v3 (sb.map bv) := ho4.rd.drew
          have hE : ((bs sb).toList == (bs sb).toList) = true := by simp
          have HS5 := Lib.hid (hS4.kept (Fr.refl none_ w4).drew (fun f => f))
          have HR5 := Lib.hid (hR4.kept (Fr.refl none_ w4).drew (fun f => f))
          have HF5 := Lib.hid hF4.drew
          clear hS4 hR4 hF4 ho4
          go_wp2_with fail
          refine region_tm [5, 11, 20] [] [0, 0, 3, 4, 8, 24, 8, 104, 136, 264, 512, 1536, 512, 4608, 8704, 16896, 35328, 66048, 133120, 262144, 786432, 262144, 2359296, 4456448, 8650752, 18087936, 33816576] [134217727, 134217727, 134217724, 134217723, 134217719, 0, 134217719, 134217623, 134217591, 134217471, 134217215, 0, 134217215, 134213119, 134209023, 134200831, 134182399, 134151679, 134086655, 133955583, 0, 133955583, 131858431, 129761279, 125566975, 116129791, 100401151] [0, 0, 3, 7, 15, 31, 15, 127, 255, 511, 1023, 2047, 1023, 5119, 13311, 29695, 65535, 131071, 262143, 524287, 1048575, 524287, 2621439, 6815743, 15204351, 33554431, 67108863] 134217727 (.quiet 0 (.quiet 1 (.quiet 2 (.quiet 3 (.quiet 4 (.quiet 6 (.alt 5 (.quiet 7 (.quiet 8 (.quiet 9 (.quiet 10 (.quiet 12 (.quiet 13 (.quiet 14 (.quiet 15 (.alt 11 (.quiet 16 (.quiet 17 (.quiet 18 (.quiet 19 (.quiet 21 (.quiet 22 (.quiet 23 (.quiet 24 (.alt 20 (.quiet 25 (.quiet 26 .done)) (.fin)))))))))) (.fin)))))))))) (.fin)))))))) (fun w' => w'.cell? ⟨fb, 2, none⟩ = some (.int .i64 st'.1) ∧ w'.cell? ⟨fb, 3, none⟩ = some (.int .i64 st'.2)) (by as_aux_lemma => kernel_rfl) (by as_aux_lemma => kernel_rfl) (by as_aux_lemma => kernel_rfl) (by as_aux_lemma => kernel_rfl) (by as_aux_lemma => kernel_rfl) (by as_aux_lemma => kernel_rfl) (by as_aux_lemma => kernel_rfl) (by as_aux_lemma => kernel_rfl) (by exact HU.out) ?_
          repeat' (first
            | (refine t_float (v := ?_) (a' := ?_) rfl rfl rfl ?_ ?_ ?_
               rotate_left 2
               · (intro w' hU; (try dsimp only at hU); go_simp; with_reducible rfl)
               · (simp only [Act.put, List.setIfInBounds_toArray, List.set_cons_zero, List.set_cons_succ]; rfl))
            | (refine t_bound (v := ?_) (a' := ?_) rfl rfl rfl ?_ ?_ ?_
               rotate_left 2
               · (go_simp; with_reducible rfl)
               · (simp only [Act.put, List.setIfInBounds_toArray, List.set_cons_zero, List.set_cons_succ]; rfl))
            | (refine t_skip (a' := ?_) rfl rfl ?_ ?_
               rotate_left 1
               · (simp only [Act.put, List.setIfInBounds_toArray, List.set_cons_zero, List.set_cons_succ]; rfl))
            | exact t_fin
            | (refine t_acts rfl rfl (fun K hK => ?_) ?_
               first | ((refine wp_str _ _ 25 9 5 rfl Try.underlying25 Try.underlying5 Try.underlying9 v3 sb rfl hv ?_); simp only [Act.put, List.setIfInBounds_toArray, List.set_cons_zero, List.set_cons_succ]) | (go_simp; try (go_wp2_with (first | (go_at_call 84; refine hQ4.mono ?_; rintro e w' ⟨rfl, rfl⟩) | (go_at_call 83; refine hG4.mono ?_; rintro e w' ⟨rfl, rfl⟩))))
               refine hK.out _ _ (by exact HU.out) ?_
               clear hK K))
          all_goals (refine t_done ?_)
          all_goals
            go_wp2_with fail
            exact ⟨⟨j + 1, st', by omega, by simp, HS5.out, HR5.out, HF5.out⟩, by simp [intOf]; omega⟩
      · have dk : decide (bits .and .i64 q.a 7 < 5) = false := decide_eq_false hk5
        by_cases hk6 : bits .and .i64 q.a 7 = 5
        · have dk3 : (bits .and .i64 q.a 7 == 5) = true := by simp [hk6]
          as_aux_lemma =>
            have HS : ∀ wa, SlAt wa b seed who st → Calls Try.prog 79 #[.pointer (some ⟨b, 0, none⟩), .int .i64 q.c] wa fun e w' => ∃ v, e = .returned (.tuple #[v, .int .i64 (slC (nxM who st 3 st.1 q.c 0 0))]) ∧ Own w' wa.heap.size 5 v ((slB (ofW seed who st.1) (nxM who st 3 st.1 q.c 0 0)).map bv) ∧ SlAt w' b seed who (upS (nxM who st 3 st.1 q.c 0 0) st) ∧ Fr (one_ b) wa w' := fun wa h => sbeat_any h q.c
            have HR : ∀ wa, RlAt wa fb seed who st → Calls Try.prog 80 #[.pointer (some ⟨fb, 0, none⟩), .int .i64 q.c] wa fun e w' => e = .returned (.tuple #[.string (bs (slB (ofW seed who st.1) (nxM who st 3 st.1 q.c 0 0))), .int .i64 (slC (nxM who st 3 st.1 q.c 0 0))]) ∧ RlAt w' fb seed who (upS (nxM who st 3 st.1 q.c 0 0) st) ∧ Fr (oneR fb) wa w' := fun wa h => fbeat_any h q.c
            generalize slC (nxM who st 3 st.1 q.c 0 0) = code at *
            generalize slB (ofW seed who st.1) (nxM who st 3 st.1 q.c 0 0) = sb at *
            generalize upS (nxM who st 3 st.1 q.c 0 0) st = st' at *
            go_wp2_with fail
            refine (HS _ hS).mono ?_
            rintro e w3 ⟨v3, rfl, ho3, hS3, hf3⟩
            have hR3 := hR.kept hf3 hne
            have hF3 := hF.step hf3 h1
            obtain ⟨q0', q1', q2', q3'⟩ := HQ _ hF3
            clear hS hR hF q0 q1 q2 q3 HS
            go_wp2_with fail
            refine (HR _ hR3).mono ?_
            rintro e w4 ⟨rfl, hR4, hf4⟩
            have hS4 := hS3.kept hf4 (fun e => hne e.symm)
            have ho4 := ho3.kept hf4 (fun k hk hx => by have := (ho3.blk k hk).1; unfold oneR at hx; omega)
            have hF4 := hF3.step hf4 h2
            clear hR3 hS3 hF3 hf3 hf4 ho3 q0' q1' q2' q3' HR
            have hG4 : Calls Try.prog 83 #[.pointer (some ⟨b, 0, none⟩)] w4.drew fun e w' => e = .returned (.int .i64 st'.1) ∧ w4.drew = w' := sgen_any (hS4.kept (Fr.refl none_ w4).drew (fun f => f))
            have hQ4 : Calls Try.prog 84 #[.pointer (some ⟨b, 0, none⟩)] w4.drew fun e w' => e = .returned (.int .i64 st'.2) ∧ w4.drew = w' := sseq_any (hS4.kept (Fr.refl none_ w4).drew (fun f => f))
            obtain ⟨_, _, r2, r3⟩ := hR4.head
            have HU := Lib.hid (show w4.drew.cell? ⟨fb, 2, none⟩ = some (.int .i64 st'.1) ∧ w4.drew.cell? ⟨fb, 3, none⟩ = some (.int .i64 st'.2) from ⟨r2, r3⟩)
            have hv : Rd w4.drew v3 (sb.map bv) := ho4.rd.drew
            have hE : ((bs sb).toList == (bs sb).toList) = true := by simp
            have HS5 := Lib.hid (hS4.kept (Fr.refl none_ w4).drew (fun f => f))
            have HR5 := Lib.hid (hR4.kept (Fr.refl none_ w4).drew (fun f => f))
            have HF5 := Lib.hid hF4.drew
            clear hS4 hR4 hF4 ho4
            go_wp2_with fail
            refine region_tm [5, 11, 20] [] [0, 0, 3, 4, 8, 24, 8, 104, 136, 264, 512, 1536, 512, 4608, 8704, 16896, 35328, 66048, 133120, 262144, 786432, 262144, 2359296, 4456448, 8650752, 18087936, 33816576] [134217727, 134217727, 134217724, 134217723, 134217719, 0, 134217719, 134217623, 134217591, 134217471, 134217215, 0, 134217215, 134213119, 134209023, 134200831, 134182399, 134151679, 134086655, 133955583, 0, 133955583, 131858431, 129761279, 125566975, 116129791, 100401151] [0, 0, 3, 7, 15, 31, 15, 127, 255, 511, 1023, 2047, 1023, 5119, 13311, 29695, 65535, 131071, 262143, 524287, 1048575, 524287, 2621439, 6815743, 15204351, 33554431, 67108863] 134217727 (.quiet 0 (.quiet 1 (.quiet 2 (.quiet 3 (.quiet 4 (.quiet 6 (.alt 5 (.quiet 7 (.quiet 8 (.quiet 9 (.quiet 10 (.quiet 12 (.quiet 13 (.quiet 14 (.quiet 15 (.alt 11 (.quiet 16 (.quiet 17 (.quiet 18 (.quiet 19 (.quiet 21 (.quiet 22 (.quiet 23 (.quiet 24 (.alt 20 (.quiet 25 (.quiet 26 .done)) (.fin)))))))))) (.fin)))))))))) (.fin)))))))) (fun w' => w'.cell? ⟨fb, 2, none⟩ = some (.int .i64 st'.1) ∧ w'.cell? ⟨fb, 3, none⟩ = some (.int .i64 st'.2)) (by as_aux_lemma => kernel_rfl) (by as_aux_lemma => kernel_rfl) (by as_aux_lemma => kernel_rfl) (by as_aux_lemma => kernel_rfl) (by as_aux_lemma => kernel_rfl) (by as_aux_lemma => kernel_rfl) (by as_aux_lemma => kernel_rfl) (by as_aux_lemma => kernel_rfl) (by exact HU.out) ?_
            repeat' (first
              | (refine t_float (v := ?_) (a' := ?_) rfl rfl rfl ?_ ?_ ?_
                 rotate_left 2
                 · (intro w' hU; (try dsimp only at hU); go_simp; with_reducible rfl)
                 · (simp only [Act.put, List.setIfInBounds_toArray, List.set_cons_zero, List.set_cons_succ]; rfl))
              | (refine t_bound (v := ?_) (a' := ?_) rfl rfl rfl ?_ ?_ ?_
                 rotate_left 2
                 · (go_simp; with_reducible rfl)
                 · (simp only [Act.put, List.setIfInBounds_toArray, List.set_cons_zero, List.set_cons_succ]; rfl))
              | (refine t_skip (a' := ?_) rfl rfl ?_ ?_
                 rotate_left 1
                 · (simp only [Act.put, List.setIfInBounds_toArray, List.set_cons_zero, List.set_cons_succ]; rfl))
              | exact t_fin
              | (refine t_acts rfl rfl (fun K hK => ?_) ?_
                 first | ((refine wp_str _ _ 25 9 5 rfl Try.underlying25 Try.underlying5 Try.underlying9 v3 sb rfl hv ?_); simp only [Act.put, List.setIfInBounds_toArray, List.set_cons_zero, List.set_cons_succ]) | (go_simp; try (go_wp2_with (first | (go_at_call 84; refine hQ4.mono ?_; rintro e w' ⟨rfl, rfl⟩) | (go_at_call 83; refine hG4.mono ?_; rintro e w' ⟨rfl, rfl⟩))))
                 refine hK.out _ _ (by exact HU.out) ?_
                 clear hK K))
            all_goals (refine t_done ?_)
            all_goals
              go_wp2_with fail
              exact ⟨⟨j + 1, st', by omega, by simp, HS5.out, HR5.out, HF5.out⟩, by simp [intOf]; omega⟩
        · have dk3 : (bits .and .i64 q.a 7 == 5) = false := by simp [hk6]
          as_aux_lemma =>
            have HS : ∀ wa, SlAt wa b seed who st → Calls Try.prog 81 #[.pointer (some ⟨b, 0, none⟩), .int .i64 q.c] wa fun e w' => ∃ v, e = .returned (.tuple #[v, .int .i64 (slC (nxM who st 2 (st.1 + 1) q.c 0 0))]) ∧ Own w' wa.heap.size 5 v ((slB (ofW seed who st.1) (nxM who st 2 (st.1 + 1) q.c 0 0)).map bv) ∧ SlAt w' b seed who (roS (nxM who st 2 (st.1 + 1) q.c 0 0) st) ∧ Fr (one_ b) wa w' := fun wa h => srotate_any h q.c
            have HR : ∀ wa, RlAt wa fb seed who st → Calls Try.prog 82 #[.pointer (some ⟨fb, 0, none⟩), .int .i64 q.c] wa fun e w' => e = .returned (.tuple #[.string (bs (slB (ofW seed who st.1) (nxM who st 2 (st.1 + 1) q.c 0 0))), .int .i64 (slC (nxM who st 2 (st.1 + 1) q.c 0 0))]) ∧ RlAt w' fb seed who (roS (nxM who st 2 (st.1 + 1) q.c 0 0) st) ∧ Fr (oneR fb) wa w' := fun wa h => frotate_any h q.c
            generalize slC (nxM who st 2 (st.1 + 1) q.c 0 0) = code at *
            generalize slB (ofW seed who st.1) (nxM who st 2 (st.1 + 1) q.c 0 0) = sb at *
            generalize roS (nxM who st 2 (st.1 + 1) q.c 0 0) st = st' at *
            go_wp2_with fail
            refine (HS _ hS).mono ?_
            rintro e w3 ⟨v3, rfl, ho3, hS3, hf3⟩
            have hR3 := hR.kept hf3 hne
            have hF3 := hF.step hf3 h1
            obtain ⟨q0', q1', q2', q3'⟩ := HQ _ hF3
            clear hS hR hF q0 q1 q2 q3 HS
            go_wp2_with fail
            refine (HR _ hR3).mono ?_
            rintro e w4 ⟨rfl, hR4, hf4⟩
            have hS4 := hS3.kept hf4 (fun e => hne e.symm)
            have ho4 := ho3.kept hf4 (fun k hk hx => by have := (ho3.blk k hk).1; unfold oneR at hx; omega)
            have hF4 := hF3.step hf4 h2
            clear hR3 hS3 hF3 hf3 hf4 ho3 q0' q1' q2' q3' HR
            have hG4 : Calls Try.prog 83 #[.pointer (some ⟨b, 0, none⟩)] w4.drew fun e w' => e = .returned (.int .i64 st'.1) ∧ w4.drew = w' := sgen_any (hS4.kept (Fr.refl none_ w4).drew (fun f => f))
            have hQ4 : Calls Try.prog 84 #[.pointer (some ⟨b, 0, none⟩)] w4.drew fun e w' => e = .returned (.int .i64 st'.2) ∧ w4.drew = w' := sseq_any (hS4.kept (Fr.refl none_ w4).drew (fun f => f))
            obtain ⟨_, _, r2, r3⟩ := hR4.head
            have HU := Lib.hid (show w4.drew.cell? ⟨fb, 2, none⟩ = some (.int .i64 st'.1) ∧ w4.drew.cell? ⟨fb, 3, none⟩ = some (.int .i64 st'.2) from ⟨r2, r3⟩)
            have hv : Rd w4.drew v3 (sb.map bv) := ho4.rd.drew
            have hE : ((bs sb).toList == (bs sb).toList) = true := by simp
            have HS5 := Lib.hid (hS4.kept (Fr.refl none_ w4).drew (fun f => f))
            have HR5 := Lib.hid (hR4.kept (Fr.refl none_ w4).drew (fun f => f))
            have HF5 := Lib.hid hF4.drew
            clear hS4 hR4 hF4 ho4
            go_wp2_with fail
            refine region_tm [5, 11, 20] [] [0, 0, 3, 4, 8, 24, 8, 104, 136, 264, 512, 1536, 512, 4608, 8704, 16896, 35328, 66048, 133120, 262144, 786432, 262144, 2359296, 4456448, 8650752, 18087936, 33816576] [134217727, 134217727, 134217724, 134217723, 134217719, 0, 134217719, 134217623, 134217591, 134217471, 134217215, 0, 134217215, 134213119, 134209023, 134200831, 134182399, 134151679, 134086655, 133955583, 0, 133955583, 131858431, 129761279, 125566975, 116129791, 100401151] [0, 0, 3, 7, 15, 31, 15, 127, 255, 511, 1023, 2047, 1023, 5119, 13311, 29695, 65535, 131071, 262143, 524287, 1048575, 524287, 2621439, 6815743, 15204351, 33554431, 67108863] 134217727 (.quiet 0 (.quiet 1 (.quiet 2 (.quiet 3 (.quiet 4 (.quiet 6 (.alt 5 (.quiet 7 (.quiet 8 (.quiet 9 (.quiet 10 (.quiet 12 (.quiet 13 (.quiet 14 (.quiet 15 (.alt 11 (.quiet 16 (.quiet 17 (.quiet 18 (.quiet 19 (.quiet 21 (.quiet 22 (.quiet 23 (.quiet 24 (.alt 20 (.quiet 25 (.quiet 26 .done)) (.fin)))))))))) (.fin)))))))))) (.fin)))))))) (fun w' => w'.cell? ⟨fb, 2, none⟩ = some (.int .i64 st'.1) ∧ w'.cell? ⟨fb, 3, none⟩ = some (.int .i64 st'.2)) (by as_aux_lemma => kernel_rfl) (by as_aux_lemma => kernel_rfl) (by as_aux_lemma => kernel_rfl) (by as_aux_lemma => kernel_rfl) (by as_aux_lemma => kernel_rfl) (by as_aux_lemma => kernel_rfl) (by as_aux_lemma => kernel_rfl) (by as_aux_lemma => kernel_rfl) (by exact HU.out) ?_
            repeat' (first
              | (refine t_float (v := ?_) (a' := ?_) rfl rfl rfl ?_ ?_ ?_
                 rotate_left 2
                 · (intro w' hU; (try dsimp only at hU); go_simp; with_reducible rfl)
                 · (simp only [Act.put, List.setIfInBounds_toArray, List.set_cons_zero, List.set_cons_succ]; rfl))
              | (refine t_bound (v := ?_) (a' := ?_) rfl rfl rfl ?_ ?_ ?_
                 rotate_left 2
                 · (go_simp; with_reducible rfl)
                 · (simp only [Act.put, List.setIfInBounds_toArray, List.set_cons_zero, List.set_cons_succ]; rfl))
              | (refine t_skip (a' := ?_) rfl rfl ?_ ?_
                 rotate_left 1
                 · (simp only [Act.put, List.setIfInBounds_toArray, List.set_cons_zero, List.set_cons_succ]; rfl))
              | exact t_fin
              | (refine t_acts rfl rfl (fun K hK => ?_) ?_
                 first | ((refine wp_str _ _ 25 9 5 rfl Try.underlying25 Try.underlying5 Try.underlying9 v3 sb rfl hv ?_); simp only [Act.put, List.setIfInBounds_toArray, List.set_cons_zero, List.set_cons_succ]) | (go_simp; try (go_wp2_with (first | (go_at_call 84; refine hQ4.mono ?_; rintro e w' ⟨rfl, rfl⟩) | (go_at_call 83; refine hG4.mono ?_; rintro e w' ⟨rfl, rfl⟩))))
                 refine hK.out _ _ (by exact HU.out) ?_
                 clear hK K))
            all_goals (refine t_done ?_)
            all_goals
              go_wp2_with fail
              exact ⟨⟨j + 1, st', by omega, by simp, HS5.out, HR5.out, HF5.out⟩, by simp [intOf]; omega⟩
    · have hd : decide ((j : Int) < (L.length : Int)) = false := by simp; omega
      have hd' : decide (j < L.length) = false := decide_eq_false hlt
      have HF := Lib.hid hF
      clear hcell hS hR hlt hF
      go_wp2_with fail
      refine (HT _).mono ?_
      rintro e w3 ⟨rfl, hf⟩
      go_wp2_with fail
      go_ret
      exact ⟨rfl, HF.out.trans hf⟩

namespace sealPlays
open Go Go.ChangeShapes Go.WideShapes Go.ChangeAt Go.RowKit
set_option linter.unusedVariables false
set_option maxRecDepth 100000 in
theorem lifted (os : Os) (started : os.Started) (H : Type) (enc : TypeId × Value → H) :
    ReturnsInHanded {} Try.checked os 23 .any (Rows.sealPlaysSpec.pre6 enc Try.prog Try.f23 Rows.sealPlaysRow.domain false) (Rows.sealPlaysSpec.post enc Try.prog Try.f23 false true false false) := by
  refine returnsInHanded_of_change (C := Try.checked) owned started (by kernel_rfl) Try.func23
    (ChangeSpec.witness6 (enc := enc) (C := Try.checked) false ⟨#[], #[.int .u64 0, .int .i64 0, .slice none 0 0], []⟩ 8 (by kernel_rfl) (by kernel_rfl) (by kernel_rfl) (by kernel_rfl)) ?_
  intro W base args ds gs before hval0 hW hcnd _
  have hval : ∀ (j : Nat) t v, Try.f23.params[j]? = some t → args[j]? = some v → Value.okWide Try.prog W .any base t v := hval0
  have hW' := hW
  obtain ⟨p, q, hA0, hV, rfl, hfz, hnd⟩ := hW
  have hA : DataW.TrodAll enc Try.prog W 0 (fun _ => true) true Try.f23.params.toList args.toList ds p := hA0
  rw [Try.params23] at hA hval
  obtain ⟨v0, vs0, d0, ds0, p0, q0, hargs, rfl, rfl, h0, r0⟩ := trodAll_cons hA
  obtain ⟨v1, vs1, d1, ds1, p1, q1, rfl, rfl, rfl, h1, r1⟩ := trodAll_cons r0
  obtain ⟨v2, vs2, d2, ds2, p2, q2, rfl, rfl, rfl, h2, r2⟩ := trodAll_cons r1
  obtain ⟨rfl, rfl, rfl⟩ := trodAll_nil r2
  obtain rfl : args = #[v0, v1, v2] := by cases args; simp_all
  obtain ⟨rfl, rfl⟩ := trodVars_none hV
  have k0 := h0
  have lt0 : ∀ x ∈ p0, x.block < W.heap.size := by obtain ⟨m, hm⟩ := k0; exact DataW.trod_lt m _ _ _ hm
  have k1 := h1
  have lt1 : ∀ x ∈ p1, x.block < W.heap.size := by obtain ⟨m, hm⟩ := k1; exact DataW.trod_lt m _ _ _ hm
  have k2 := h2
  have lt2 : ∀ x ∈ p2, x.block < W.heap.size := by obtain ⟨m, hm⟩ := k2; exact DataW.trod_lt m _ _ _ hm
  obtain ⟨x0, rfl⟩ := open_word Try.underlying22 (hval 0 22 v0 rfl rfl) h0
  obtain ⟨x1, rfl, bl1, bh1⟩ := open_num Try.underlying3 (hval 1 3 v1 rfl rfl) h1
  obtain ⟨x2, hr2⟩ := open_ops Try.underlying107 Try.underlying113 (by kernel_rfl) (by kernel_rfl) (by kernel_rfl) (hval 2 107 v2 rfl rfl) h2
  clear hA0 hval0
  refine (walk_SealPlays W x0 x1 bl1 bh1 v2 x2 hr2).mono fun e W' ⟨he, fr⟩ => ?_
  subst he
  have bel := fr.below
  exact ⟨_, rfl, _, _, _, [], _, [], hW', trodAll_mk1 (shut_bool Try.underlying4 _), (trodAll_cons_mk (Below.trod laid (by kernel_rfl) (of_decide_eq_true (by kernel_rfl)) k0 bel lt0) (trodAll_cons_mk (Below.trod laid (by kernel_rfl) (of_decide_eq_true (by kernel_rfl)) k1 bel lt1) (trodAll_cons_mk (Below.trod laid (by kernel_rfl) (of_decide_eq_true (by kernel_rfl)) k2 bel lt2) trodAll_mk0))), rfl, bel.frame _, fun h => by cases h⟩

theorem inPlace : Try.prog.inPlace 23 = ["sync/atomic.LoadInt64", "sync/atomic.AddInt64", "sync/atomic.StoreInt64"] := by kernel_rfl
theorem closed : joinedFacts Try.prog 23 Try.f23 Rows.sealPlaysSpec Rows.sealPlaysRow = true := by
  unfold joinedFacts
  repeat' (with_reducible refine and_mk ?_ ?_)
  all_goals first
    | with_reducible exact enters
    | with_reducible exact laid
    | with_reducible exact rowed
    | with_reducible exact noStops
    | with_reducible exact noKnobs
    | with_reducible exact heard
    | (rw [lifts]; as_aux_lemma => kernel_rfl)
    | (rw [makes]; as_aux_lemma => kernel_rfl)
    | (rw [plains]; as_aux_lemma => kernel_rfl)
    | (rw [inPlace]; as_aux_lemma => kernel_rfl)
    | as_aux_lemma => kernel_rfl
theorem named : Try.prog.funcNamed Rows.sealPlaysRow.func = some 23 := by kernel_rfl
theorem isOne : (Try.f23).isInstance Try.prog Rows.sealPlaysRow.origin Rows.sealPlaysRow.targs := of_decide_eq_true (by kernel_rfl)
theorem wraps : (Try.f23).isWrapper Try.prog Rows.sealPlaysRow.wrapper Rows.sealPlaysRow.mainSum := by unfold Func.isWrapper; first | (rw [if_pos (by decide +kernel)]; kernel_rfl) | (rw [if_neg (by decide +kernel)]; exact ⟨rfl, rfl⟩)
theorem over : Rows.sealPlaysRow.holds Try.pinned (OpenSpec.ofChange Rows.sealPlaysSpec) :=
  OpenClaim.holds_of_wide 23 Try.f23 rfl rfl rfl rfl rfl rfl rfl ⟨rfl, rfl, rfl, rfl, rfl⟩ rfl rfl rfl rfl rfl named Try.func23 closed
    isOne wraps
    (fun os started H enc _ => lifted os started H enc)

/-- THE STATEMENT. -/
theorem proved : Rows.SealPlaysSaid := over
#print axioms proved
end sealPlays
end Go.Proofs.Ytandenkoejbloaa
