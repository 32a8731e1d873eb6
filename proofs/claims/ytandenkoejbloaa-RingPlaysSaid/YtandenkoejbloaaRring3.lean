/- Walk of the document's ring: Key. -/
import Derived.Test.YtandenkoejbloaaRring2
import Derived.Test.YtandenkoejbloaaRder
import Derived.Test.YtandenkoejbloaaRing3
namespace Go.Proofs.Ytandenkoejbloaa
open Go Go.RowKit
section
variable {b gb sb : Nat} {seed : W} {grace : Int} {g : Gs} {w : World}
set_option maxRecDepth 100000 in
set_option maxHeartbeats 3200000 in
theorem fkey_any (h : RfAt w b gb sb seed grace g) (who gen now : Int) : Calls Try.prog 71 #[.pointer (some ⟨b, 0, none⟩), .int .i64 who, .int .i64 gen, .int .i64 now] w fun e w' =>
    e = .returned (.tuple #[keyv (keyK (keyC g grace who gen now) seed who gen), .int .i64 (keyC g grace who gen now)]) ∧ Fr none_ w w' := by
  have hR := Blk.new w #[.int .u64 0, .int .u64 0] 56
  have hF := (Fr.refl none_ w).alloc (.cells #[.int .u64 0, .int .u64 0] 56)
  have h0 := h.kept hF (fun f => f) (fun f => f) (fun f => f)
  obtain ⟨k0, k1, k2, k3⟩ := h0.head
  rcases gat_cases g who with ⟨ho, hg⟩ | ⟨n, p, rfl, hn, hp, hg⟩
  · rw [keyC_none hg, keyK_no (by decide)]
    clear h h0
    unfold keyv
    go_enter Try.func71, Try.ntmps71
    go_wp2_with fail
    all_goals first
      | (exfalso; omega)
      | exact bodyPost_ret (v := .tuple #[.agg #[.int .u64 (u 0), .int .u64 (u 0)], .int .i64 3]) (by simp [results, Try.results71, go_sem]; decide) rfl ⟨rfl, hF⟩
  · obtain ⟨c0, c1, _, _⟩ := h0.cells hp
    have hok := h.2.2.2.1 p (List.mem_of_getElem? hp)
    have hgr := h.2.2.2.2.1
    have hgr2 := h.2.2.2.2.2.1
    have hws : IntKind.i64.wrap (p.2 + grace) = p.2 + grace := IntWalk.i64_in _ (by omega)
    have hwm : IntKind.i64.wrap (p.1 - 1) = p.1 - 1 := IntWalk.i64_in _ (by omega)
    have hc := keyC_some hg grace gen now
    have HO : ∀ wa, Calls Try.prog 50 #[.int .u64 (u seed), .int .i64 n, .int .i64 gen] wa fun e w' => e = .returned (keyv (ofW seed n gen)) ∧ Fr none_ wa w' := fun wa => rof_any seed n gen wa
    have hk0 := keyK_ok seed n gen
    have hk1 := keyK_no (c := 4) (by decide) seed n gen
    generalize keyC g grace n gen now = code at *
    generalize ofW seed n gen = kk at *
    have hd1 : decide ((n : Int) < 0) = false := by simp
    have hd2 : decide (g.length ≤ n) = false := by simp; exact hn
    obtain ⟨pm, hpm⟩ : ∃ pm, pm = p.1 - 1 := ⟨_, rfl⟩
    obtain ⟨ps, hps⟩ : ∃ ps, ps = p.2 + grace := ⟨_, rfl⟩
    replace hwm := hwm.trans hpm.symm
    replace hws := hws.trans hps.symm
    have hcases : (code = 4 ∧ decide (0 ≤ gen) = false) ∨ (code = 0 ∧ decide (0 ≤ gen) = true ∧ (gen == p.1) = true) ∨ (code = 4 ∧ decide (0 ≤ gen) = true ∧ (gen == p.1) = false ∧ (gen == pm) = false) ∨ (code = 0 ∧ decide (0 ≤ gen) = true ∧ (gen == p.1) = false ∧ (gen == pm) = true ∧ decide (now < ps) = true) ∨ (code = 4 ∧ decide (0 ≤ gen) = true ∧ (gen == p.1) = false ∧ (gen == pm) = true ∧ decide (now < ps) = false) := by
      simp only [beq_iff_eq, beq_eq_false_iff_ne, decide_eq_true_eq, decide_eq_false_iff_not]
      omega
    clear hc hg h h0 hpm hps hok
    obtain ⟨p1, p2⟩ := p
    dsimp only at *
    unfold keyv at *
    rcases hcases with ⟨hcode, d1⟩ | ⟨hcode, d1, d2⟩ | ⟨hcode, d1, d2, d3⟩ | ⟨hcode, d1, d2, d3, d4⟩ | ⟨hcode, d1, d2, d3, d4⟩
    · skip
      go_enter Try.func71, Try.ntmps71
      go_wp2_with fail
      refine region_tm [] [7, 10, 17, 20, 28, 31, 35] [0, 1, 2, 4, 4, 20, 36, 68, 4, 388, 516, 1036, 2052, 4096, 4096, 20480, 36864, 69632, 4096, 397312, 528384, 1052672, 2109440, 4198400, 8388608, 8388608, 41943040, 75497472, 142606336, 8388608, 813694976, 1082130432, 8388608, 4303355904, 8598323200, 17188257792, 36515610624, 68744642560, 137447346176, 274877911044, 549755813892, 1099520016384] [4398046511103, 4398046511102, 4398046511101, 4398046511099, 4398046511099, 4398046511083, 4398046511067, 4398046511035, 4398046511099, 4398046510715, 4398046510587, 4398046510067, 4398046509051, 4398046507007, 4398046507007, 4398046490623, 4398046474239, 4398046441471, 4398046507007, 4398046113791, 4398045982719, 4398045458431, 4398044401663, 4398042312703, 4398038122495, 4398038122495, 4398004568063, 4397971013631, 4397903904767, 4398038122495, 4397232816127, 4396964380671, 4398038122495, 4393743155199, 4389448187903, 4380858253311, 4361530900479, 4329301868543, 4260599164927, 4123168600059, 3848290697211, 3298534883327] [0, 1, 3, 7, 7, 23, 55, 119, 7, 503, 1015, 2047, 4095, 8191, 8191, 24575, 57343, 122879, 8191, 516095, 1040383, 2088959, 4194303, 8388607, 16777215, 16777215, 50331647, 117440511, 251658239, 16777215, 1056964607, 2130706431, 16777215, 4311744511, 12901679103, 30081548287, 68702699519, 137438953471, 274877906943, 549755813887, 1099511627775, 2199023255551] 4398046511103 (.quiet 0 (.quiet 1 (.quiet 2 (.quiet 3 (.quiet 4 (.quiet 5 (.quiet 6 (.quiet 7 (.quiet 8 (.quiet 9 (.quiet 10 (.quiet 11 (.quiet 12 (.quiet 13 (.quiet 14 (.quiet 15 (.quiet 16 (.quiet 17 (.quiet 18 (.quiet 19 (.quiet 20 (.quiet 21 (.quiet 22 (.quiet 23 (.quiet 24 (.quiet 25 (.quiet 26 (.quiet 27 (.quiet 28 (.quiet 29 (.quiet 30 (.quiet 31 (.quiet 32 (.quiet 33 (.quiet 34 (.quiet 35 (.quiet 36 (.quiet 37 (.quiet 38 (.quiet 39 (.quiet 40 (.quiet 41 .done)))))))))))))))))))))))))))))))))))))))))) (fun _ => True) (by as_aux_lemma => kernel_rfl) (by as_aux_lemma => kernel_rfl) (by as_aux_lemma => kernel_rfl) (by as_aux_lemma => kernel_rfl) (by as_aux_lemma => kernel_rfl) (by as_aux_lemma => kernel_rfl) (by as_aux_lemma => kernel_rfl) (by as_aux_lemma => kernel_rfl) trivial ?_
      repeat' (first
        | (refine t_float (v := ?_) (a' := ?_) rfl rfl rfl ?_ ?_ ?_
           rotate_left 2
           · (intro w' _; go_simp; with_reducible rfl)
           · (simp only [Act.put, List.setIfInBounds_toArray, List.set_cons_zero, List.set_cons_succ]; rfl))
        | (refine t_bound (v := ?_) (a' := ?_) rfl rfl rfl ?_ ?_ ?_
           rotate_left 2
           · (go_simp; with_reducible rfl)
           · (simp only [Act.put, List.setIfInBounds_toArray, List.set_cons_zero, List.set_cons_succ]; rfl))
        | (refine t_skip (a' := ?_) rfl rfl ?_ ?_
           rotate_left 1
           · (simp only [Act.put, List.setIfInBounds_toArray, List.set_cons_zero, List.set_cons_succ]; rfl))
        | exact t_fin
        | (refine t_acts rfl rfl (fun K hK => ?_) ?_
           go_simp
           refine hK.out _ _ trivial ?_
           clear hK K))
      all_goals (refine t_done ?_)
      go_wp2_with fail
      subst hcode
      rw [hk1]
      exact bodyPost_ret (v := .tuple #[.agg #[.int .u64 (u 0), .int .u64 (u 0)], .int .i64 4]) (by simp [results, Try.results71, go_sem]; try (first | done | decide)) rfl ⟨rfl, hF.drew⟩
    · skip
      go_enter Try.func71, Try.ntmps71
      go_wp2_with fail
      refine region_tm [] [7, 10, 17, 20, 28, 31, 35] [0, 1, 2, 4, 4, 20, 36, 68, 4, 388, 516, 1036, 2052, 4096, 4096, 20480, 36864, 69632, 4096, 397312, 528384, 1052672, 2109440, 4198400, 8388608, 8388608, 41943040, 75497472, 142606336, 8388608, 813694976, 1082130432, 8388608, 4303355904, 8598323200, 17188257792, 36515610624, 68744642560, 137447346176, 274877911044, 549755813892, 1099520016384] [4398046511103, 4398046511102, 4398046511101, 4398046511099, 4398046511099, 4398046511083, 4398046511067, 4398046511035, 4398046511099, 4398046510715, 4398046510587, 4398046510067, 4398046509051, 4398046507007, 4398046507007, 4398046490623, 4398046474239, 4398046441471, 4398046507007, 4398046113791, 4398045982719, 4398045458431, 4398044401663, 4398042312703, 4398038122495, 4398038122495, 4398004568063, 4397971013631, 4397903904767, 4398038122495, 4397232816127, 4396964380671, 4398038122495, 4393743155199, 4389448187903, 4380858253311, 4361530900479, 4329301868543, 4260599164927, 4123168600059, 3848290697211, 3298534883327] [0, 1, 3, 7, 7, 23, 55, 119, 7, 503, 1015, 2047, 4095, 8191, 8191, 24575, 57343, 122879, 8191, 516095, 1040383, 2088959, 4194303, 8388607, 16777215, 16777215, 50331647, 117440511, 251658239, 16777215, 1056964607, 2130706431, 16777215, 4311744511, 12901679103, 30081548287, 68702699519, 137438953471, 274877906943, 549755813887, 1099511627775, 2199023255551] 4398046511103 (.quiet 0 (.quiet 1 (.quiet 2 (.quiet 3 (.quiet 4 (.quiet 5 (.quiet 6 (.quiet 7 (.quiet 8 (.quiet 9 (.quiet 10 (.quiet 11 (.quiet 12 (.quiet 13 (.quiet 14 (.quiet 15 (.quiet 16 (.quiet 17 (.quiet 18 (.quiet 19 (.quiet 20 (.quiet 21 (.quiet 22 (.quiet 23 (.quiet 24 (.quiet 25 (.quiet 26 (.quiet 27 (.quiet 28 (.quiet 29 (.quiet 30 (.quiet 31 (.quiet 32 (.quiet 33 (.quiet 34 (.quiet 35 (.quiet 36 (.quiet 37 (.quiet 38 (.quiet 39 (.quiet 40 (.quiet 41 .done)))))))))))))))))))))))))))))))))))))))))) (fun _ => True) (by as_aux_lemma => kernel_rfl) (by as_aux_lemma => kernel_rfl) (by as_aux_lemma => kernel_rfl) (by as_aux_lemma => kernel_rfl) (by as_aux_lemma => kernel_rfl) (by as_aux_lemma => kernel_rfl) (by as_aux_lemma => kernel_rfl) (by as_aux_lemma => kernel_rfl) trivial ?_
      repeat' (first
        | (refine t_float (v := ?_) (a' := ?_) rfl rfl rfl ?_ ?_ ?_
           rotate_left 2
           · (intro w' _; go_simp; with_reducible rfl)
           · (simp only [Act.put, List.setIfInBounds_toArray, List.set_cons_zero, List.set_cons_succ]; rfl))
        | (refine t_bound (v := ?_) (a' := ?_) rfl rfl rfl ?_ ?_ ?_
           rotate_left 2
           · (go_simp; with_reducible rfl)
           · (simp only [Act.put, List.setIfInBounds_toArray, List.set_cons_zero, List.set_cons_succ]; rfl))
        | (refine t_skip (a' := ?_) rfl rfl ?_ ?_
           rotate_left 1
           · (simp only [Act.put, List.setIfInBounds_toArray, List.set_cons_zero, List.set_cons_succ]; rfl))
        | exact t_fin
        | (refine t_acts rfl rfl (fun K hK => ?_) ?_
           go_simp
           refine hK.out _ _ trivial ?_
           clear hK K))
      all_goals (refine t_done ?_)
      go_wp2_with fail
      refine (HO _).mono ?_
      rintro e w2 ⟨rfl, hf2⟩
      have hf3 : Fr none_ (w.alloc (.cells #[.int .u64 0, .int .u64 0] 56)) w2 := (Fr.refl none_ _).drew.trans hf2
      have hR2 := hR.kept hf3 (fun f => f)
      have hF2 := hF.trans hf3
      have r0 : w2.cell? ⟨w.heap.size, 0, none⟩ = some (.int .u64 0) := hR2.cell_of rfl
      have r1 : w2.cell? ⟨w.heap.size, 1, none⟩ = some (.int .u64 0) := hR2.cell_of rfl
      have s0 := hR2.free 0
      have s1 := hR2.free 1
      have hR3 := (hR2.setCell 0 (.int .u64 (u kk.1))).setCell 1 (.int .u64 (u kk.2))
      have hF3 := (hF2.setCell (p := ⟨w.heap.size, 0, none⟩) (fun h => by simp at h) (.int .u64 (u kk.1))).setCell (p := ⟨w.heap.size, 1, none⟩) (fun h => by simp at h) (.int .u64 (u kk.2))
      go_wp2_with fail
      subst hcode
      rw [hk0]
      generalize (w2.setCell ⟨w.heap.size, 0, none⟩ (.int .u64 (u kk.1))).setCell ⟨w.heap.size, 1, none⟩ (.int .u64 (u kk.2)) = w3 at *
      have t0 : w3.cell? ⟨w.heap.size, 0, none⟩ = some (.int .u64 (u kk.1)) := hR3.cell_of rfl
      have t1 : w3.cell? ⟨w.heap.size, 1, none⟩ = some (.int .u64 (u kk.2)) := hR3.cell_of rfl
      exact bodyPost_ret (v := .tuple #[.agg #[.int .u64 (u kk.1), .int .u64 (u kk.2)], .int .i64 0]) (by simp [results, Try.results71, go_sem, t0, t1]) rfl ⟨rfl, hF3⟩
    · skip
      go_enter Try.func71, Try.ntmps71
      go_wp2_with fail
      refine region_tm [] [7, 10, 17, 20, 28, 31, 35] [0, 1, 2, 4, 4, 20, 36, 68, 4, 388, 516, 1036, 2052, 4096, 4096, 20480, 36864, 69632, 4096, 397312, 528384, 1052672, 2109440, 4198400, 8388608, 8388608, 41943040, 75497472, 142606336, 8388608, 813694976, 1082130432, 8388608, 4303355904, 8598323200, 17188257792, 36515610624, 68744642560, 137447346176, 274877911044, 549755813892, 1099520016384] [4398046511103, 4398046511102, 4398046511101, 4398046511099, 4398046511099, 4398046511083, 4398046511067, 4398046511035, 4398046511099, 4398046510715, 4398046510587, 4398046510067, 4398046509051, 4398046507007, 4398046507007, 4398046490623, 4398046474239, 4398046441471, 4398046507007, 4398046113791, 4398045982719, 4398045458431, 4398044401663, 4398042312703, 4398038122495, 4398038122495, 4398004568063, 4397971013631, 4397903904767, 4398038122495, 4397232816127, 4396964380671, 4398038122495, 4393743155199, 4389448187903, 4380858253311, 4361530900479, 4329301868543, 4260599164927, 4123168600059, 3848290697211, 3298534883327] [0, 1, 3, 7, 7, 23, 55, 119, 7, 503, 1015, 2047, 4095, 8191, 8191, 24575, 57343, 122879, 8191, 516095, 1040383, 2088959, 4194303, 8388607, 16777215, 16777215, 50331647, 117440511, 251658239, 16777215, 1056964607, 2130706431, 16777215, 4311744511, 12901679103, 30081548287, 68702699519, 137438953471, 274877906943, 549755813887, 1099511627775, 2199023255551] 4398046511103 (.quiet 0 (.quiet 1 (.quiet 2 (.quiet 3 (.quiet 4 (.quiet 5 (.quiet 6 (.quiet 7 (.quiet 8 (.quiet 9 (.quiet 10 (.quiet 11 (.quiet 12 (.quiet 13 (.quiet 14 (.quiet 15 (.quiet 16 (.quiet 17 (.quiet 18 (.quiet 19 (.quiet 20 (.quiet 21 (.quiet 22 (.quiet 23 (.quiet 24 (.quiet 25 (.quiet 26 (.quiet 27 (.quiet 28 (.quiet 29 (.quiet 30 (.quiet 31 (.quiet 32 (.quiet 33 (.quiet 34 (.quiet 35 (.quiet 36 (.quiet 37 (.quiet 38 (.quiet 39 (.quiet 40 (.quiet 41 .done)))))))))))))))))))))))))))))))))))))))))) (fun _ => True) (by as_aux_lemma => kernel_rfl) (by as_aux_lemma => kernel_rfl) (by as_aux_lemma => kernel_rfl) (by as_aux_lemma => kernel_rfl) (by as_aux_lemma => kernel_rfl) (by as_aux_lemma => kernel_rfl) (by as_aux_lemma => kernel_rfl) (by as_aux_lemma => kernel_rfl) trivial ?_
      repeat' (first
        | (refine t_float (v := ?_) (a' := ?_) rfl rfl rfl ?_ ?_ ?_
           rotate_left 2
           · (intro w' _; go_simp; with_reducible rfl)
           · (simp only [Act.put, List.setIfInBounds_toArray, List.set_cons_zero, List.set_cons_succ]; rfl))
        | (refine t_bound (v := ?_) (a' := ?_) rfl rfl rfl ?_ ?_ ?_
           rotate_left 2
           · (go_simp; with_reducible rfl)
           · (simp only [Act.put, List.setIfInBounds_toArray, List.set_cons_zero, List.set_cons_succ]; rfl))
        | (refine t_skip (a' := ?_) rfl rfl ?_ ?_
           rotate_left 1
           · (simp only [Act.put, List.setIfInBounds_toArray, List.set_cons_zero, List.set_cons_succ]; rfl))
        | exact t_fin
        | (refine t_acts rfl rfl (fun K hK => ?_) ?_
           go_simp
           refine hK.out _ _ trivial ?_
           clear hK K))
      all_goals (refine t_done ?_)
      go_wp2_with fail
      subst hcode
      rw [hk1]
      exact bodyPost_ret (v := .tuple #[.agg #[.int .u64 (u 0), .int .u64 (u 0)], .int .i64 4]) (by simp [results, Try.results71, go_sem]; try (first | done | decide)) rfl ⟨rfl, hF.drew⟩
    · skip
      go_enter Try.func71, Try.ntmps71
      go_wp2_with fail
      refine region_tm [] [7, 10, 17, 20, 28, 31, 35] [0, 1, 2, 4, 4, 20, 36, 68, 4, 388, 516, 1036, 2052, 4096, 4096, 20480, 36864, 69632, 4096, 397312, 528384, 1052672, 2109440, 4198400, 8388608, 8388608, 41943040, 75497472, 142606336, 8388608, 813694976, 1082130432, 8388608, 4303355904, 8598323200, 17188257792, 36515610624, 68744642560, 137447346176, 274877911044, 549755813892, 1099520016384] [4398046511103, 4398046511102, 4398046511101, 4398046511099, 4398046511099, 4398046511083, 4398046511067, 4398046511035, 4398046511099, 4398046510715, 4398046510587, 4398046510067, 4398046509051, 4398046507007, 4398046507007, 4398046490623, 4398046474239, 4398046441471, 4398046507007, 4398046113791, 4398045982719, 4398045458431, 4398044401663, 4398042312703, 4398038122495, 4398038122495, 4398004568063, 4397971013631, 4397903904767, 4398038122495, 4397232816127, 4396964380671, 4398038122495, 4393743155199, 4389448187903, 4380858253311, 4361530900479, 4329301868543, 4260599164927, 4123168600059, 3848290697211, 3298534883327] [0, 1, 3, 7, 7, 23, 55, 119, 7, 503, 1015, 2047, 4095, 8191, 8191, 24575, 57343, 122879, 8191, 516095, 1040383, 2088959, 4194303, 8388607, 16777215, 16777215, 50331647, 117440511, 251658239, 16777215, 1056964607, 2130706431, 16777215, 4311744511, 12901679103, 30081548287, 68702699519, 137438953471, 274877906943, 549755813887, 1099511627775, 2199023255551] 4398046511103 (.quiet 0 (.quiet 1 (.quiet 2 (.quiet 3 (.quiet 4 (.quiet 5 (.quiet 6 (.quiet 7 (.quiet 8 (.quiet 9 (.quiet 10 (.quiet 11 (.quiet 12 (.quiet 13 (.quiet 14 (.quiet 15 (.quiet 16 (.quiet 17 (.quiet 18 (.quiet 19 (.quiet 20 (.quiet 21 (.quiet 22 (.quiet 23 (.quiet 24 (.quiet 25 (.quiet 26 (.quiet 27 (.quiet 28 (.quiet 29 (.quiet 30 (.quiet 31 (.quiet 32 (.quiet 33 (.quiet 34 (.quiet 35 (.quiet 36 (.quiet 37 (.quiet 38 (.quiet 39 (.quiet 40 (.quiet 41 .done)))))))))))))))))))))))))))))))))))))))))) (fun _ => True) (by as_aux_lemma => kernel_rfl) (by as_aux_lemma => kernel_rfl) (by as_aux_lemma => kernel_rfl) (by as_aux_lemma => kernel_rfl) (by as_aux_lemma => kernel_rfl) (by as_aux_lemma => kernel_rfl) (by as_aux_lemma => kernel_rfl) (by as_aux_lemma => kernel_rfl) trivial ?_
      repeat' (first
        | (refine t_float (v := ?_) (a' := ?_) rfl rfl rfl ?_ ?_ ?_
           rotate_left 2
           · (intro w' _; go_simp; with_reducible rfl)
           · (simp only [Act.put, List.setIfInBounds_toArray, List.set_cons_zero, List.set_cons_succ]; rfl))
        | (refine t_bound (v := ?_) (a' := ?_) rfl rfl rfl ?_ ?_ ?_
           rotate_left 2
           · (go_simp; with_reducible rfl)
           · (simp only [Act.put, List.setIfInBounds_toArray, List.set_cons_zero, List.set_cons_succ]; rfl))
        | (refine t_skip (a' := ?_) rfl rfl ?_ ?_
           rotate_left 1
           · (simp only [Act.put, List.setIfInBounds_toArray, List.set_cons_zero, List.set_cons_succ]; rfl))
        | exact t_fin
        | (refine t_acts rfl rfl (fun K hK => ?_) ?_
           go_simp
           refine hK.out _ _ trivial ?_
           clear hK K))
      all_goals (refine t_done ?_)
      go_wp2_with fail
      refine (HO _).mono ?_
      rintro e w2 ⟨rfl, hf2⟩
      have hf3 : Fr none_ (w.alloc (.cells #[.int .u64 0, .int .u64 0] 56)) w2 := (Fr.refl none_ _).drew.trans hf2
      have hR2 := hR.kept hf3 (fun f => f)
      have hF2 := hF.trans hf3
      have r0 : w2.cell? ⟨w.heap.size, 0, none⟩ = some (.int .u64 0) := hR2.cell_of rfl
      have r1 : w2.cell? ⟨w.heap.size, 1, none⟩ = some (.int .u64 0) := hR2.cell_of rfl
      have s0 := hR2.free 0
      have s1 := hR2.free 1
      have hR3 := (hR2.setCell 0 (.int .u64 (u kk.1))).setCell 1 (.int .u64 (u kk.2))
      have hF3 := (hF2.setCell (p := ⟨w.heap.size, 0, none⟩) (fun h => by simp at h) (.int .u64 (u kk.1))).setCell (p := ⟨w.heap.size, 1, none⟩) (fun h => by simp at h) (.int .u64 (u kk.2))
      go_wp2_with fail
      subst hcode
      rw [hk0]
      generalize (w2.setCell ⟨w.heap.size, 0, none⟩ (.int .u64 (u kk.1))).setCell ⟨w.heap.size, 1, none⟩ (.int .u64 (u kk.2)) = w3 at *
      have t0 : w3.cell? ⟨w.heap.size, 0, none⟩ = some (.int .u64 (u kk.1)) := hR3.cell_of rfl
      have t1 : w3.cell? ⟨w.heap.size, 1, none⟩ = some (.int .u64 (u kk.2)) := hR3.cell_of rfl
      exact bodyPost_ret (v := .tuple #[.agg #[.int .u64 (u kk.1), .int .u64 (u kk.2)], .int .i64 0]) (by simp [results, Try.results71, go_sem, t0, t1]) rfl ⟨rfl, hF3⟩
    · skip
      go_enter Try.func71, Try.ntmps71
      go_wp2_with fail
      refine region_tm [] [7, 10, 17, 20, 28, 31, 35] [0, 1, 2, 4, 4, 20, 36, 68, 4, 388, 516, 1036, 2052, 4096, 4096, 20480, 36864, 69632, 4096, 397312, 528384, 1052672, 2109440, 4198400, 8388608, 8388608, 41943040, 75497472, 142606336, 8388608, 813694976, 1082130432, 8388608, 4303355904, 8598323200, 17188257792, 36515610624, 68744642560, 137447346176, 274877911044, 549755813892, 1099520016384] [4398046511103, 4398046511102, 4398046511101, 4398046511099, 4398046511099, 4398046511083, 4398046511067, 4398046511035, 4398046511099, 4398046510715, 4398046510587, 4398046510067, 4398046509051, 4398046507007, 4398046507007, 4398046490623, 4398046474239, 4398046441471, 4398046507007, 4398046113791, 4398045982719, 4398045458431, 4398044401663, 4398042312703, 4398038122495, 4398038122495, 4398004568063, 4397971013631, 4397903904767, 4398038122495, 4397232816127, 4396964380671, 4398038122495, 4393743155199, 4389448187903, 4380858253311, 4361530900479, 4329301868543, 4260599164927, 4123168600059, 3848290697211, 3298534883327] [0, 1, 3, 7, 7, 23, 55, 119, 7, 503, 1015, 2047, 4095, 8191, 8191, 24575, 57343, 122879, 8191, 516095, 1040383, 2088959, 4194303, 8388607, 16777215, 16777215, 50331647, 117440511, 251658239, 16777215, 1056964607, 2130706431, 16777215, 4311744511, 12901679103, 30081548287, 68702699519, 137438953471, 274877906943, 549755813887, 1099511627775, 2199023255551] 4398046511103 (.quiet 0 (.quiet 1 (.quiet 2 (.quiet 3 (.quiet 4 (.quiet 5 (.quiet 6 (.quiet 7 (.quiet 8 (.quiet 9 (.quiet 10 (.quiet 11 (.quiet 12 (.quiet 13 (.quiet 14 (.quiet 15 (.quiet 16 (.quiet 17 (.quiet 18 (.quiet 19 (.quiet 20 (.quiet 21 (.quiet 22 (.quiet 23 (.quiet 24 (.quiet 25 (.quiet 26 (.quiet 27 (.quiet 28 (.quiet 29 (.quiet 30 (.quiet 31 (.quiet 32 (.quiet 33 (.quiet 34 (.quiet 35 (.quiet 36 (.quiet 37 (.quiet 38 (.quiet 39 (.quiet 40 (.quiet 41 .done)))))))))))))))))))))))))))))))))))))))))) (fun _ => True) (by as_aux_lemma => kernel_rfl) (by as_aux_lemma => kernel_rfl) (by as_aux_lemma => kernel_rfl) (by as_aux_lemma => kernel_rfl) (by as_aux_lemma => kernel_rfl) (by as_aux_lemma => kernel_rfl) (by as_aux_lemma => kernel_rfl) (by as_aux_lemma => kernel_rfl) trivial ?_
      repeat' (first
        | (refine t_float (v := ?_) (a' := ?_) rfl rfl rfl ?_ ?_ ?_
           rotate_left 2
           · (intro w' _; go_simp; with_reducible rfl)
           · (simp only [Act.put, List.setIfInBounds_toArray, List.set_cons_zero, List.set_cons_succ]; rfl))
        | (refine t_bound (v := ?_) (a' := ?_) rfl rfl rfl ?_ ?_ ?_
           rotate_left 2
           · (go_simp; with_reducible rfl)
           · (simp only [Act.put, List.setIfInBounds_toArray, List.set_cons_zero, List.set_cons_succ]; rfl))
        | (refine t_skip (a' := ?_) rfl rfl ?_ ?_
           rotate_left 1
           · (simp only [Act.put, List.setIfInBounds_toArray, List.set_cons_zero, List.set_cons_succ]; rfl))
        | exact t_fin
        | (refine t_acts rfl rfl (fun K hK => ?_) ?_
           go_simp
           refine hK.out _ _ trivial ?_
           clear hK K))
      all_goals (refine t_done ?_)
      go_wp2_with fail
      subst hcode
      rw [hk1]
      exact bodyPost_ret (v := .tuple #[.agg #[.int .u64 (u 0), .int .u64 (u 0)], .int .i64 4]) (by simp [results, Try.results71, go_sem]; try (first | done | decide)) rfl ⟨rfl, hF.drew⟩
end
end Go.Proofs.Ytandenkoejbloaa
