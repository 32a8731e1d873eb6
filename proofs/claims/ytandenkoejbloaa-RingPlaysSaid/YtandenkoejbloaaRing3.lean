/- Walk of a ring's Key. -/
import Derived.Test.YtandenkoejbloaaRing2
import Derived.Test.YtandenkoejbloaaRoot
import Derived.Test.YtandenkoejbloaaRegM
namespace Go.Proofs.Ytandenkoejbloaa
open Go Go.RowKit
/-- The key, with what Key answers. -/
def keyK (code : Int) (seed : W) (who gen : Int) : W × W := if code = 0 then ofW seed who gen else (0, 0)
theorem keyK_no {c : Int} (h : c ≠ 0) (seed : W) (who gen : Int) : keyK c seed who gen = (0, 0) := if_neg h
theorem keyK_ok (seed : W) (who gen : Int) : keyK 0 seed who gen = ofW seed who gen := if_pos rfl

set_option maxHeartbeats 800000 in
theorem rkey_nil (who gen now : Int) (w : World) : Calls Try.prog 70 #[.pointer none, .int .i64 who, .int .i64 gen, .int .i64 now] w fun e w' =>
    e = .returned (.tuple #[keyv (0, 0), .int .i64 1]) ∧ Fr none_ w w' := by
  unfold keyv
  have HA := fun wa => at_nil who wa
  have hR := Blk.new w #[.int .u64 0, .int .u64 0] 56
  have hF := (Fr.refl none_ w).alloc (.cells #[.int .u64 0, .int .u64 0] 56)
  go_enter Try.func70, Try.ntmps70
  go_wp2_with fail
  refine (HA _).mono ?_
  rintro e w1 ⟨rfl, rfl⟩
  go_wp2
  exact bodyPost_ret (v := .tuple #[.agg #[.int .u64 (u 0), .int .u64 (u 0)], .int .i64 1]) (by simp [results, Try.results70, go_sem]; decide) rfl ⟨rfl, hF⟩
section
variable {b lb : Nat} {seed : W} {grace : Int} {g : Gs} {w : World}
set_option maxRecDepth 100000 in
set_option maxHeartbeats 1600000 in
theorem rkey_any (h : RgAt w b lb seed grace g) (who gen now : Int) : Calls Try.prog 70 #[.pointer (some ⟨b, 0, none⟩), .int .i64 who, .int .i64 gen, .int .i64 now] w fun e w' =>
    e = .returned (.tuple #[keyv (keyK (keyC g grace who gen now) seed who gen), .int .i64 (keyC g grace who gen now)]) ∧ RgAt w' b lb seed grace g ∧ Fr (two b lb) w w' := by
  have hR := Blk.new w #[.int .u64 0, .int .u64 0] 56
  have hF := (Fr.refl (two b lb) w).alloc (.cells #[.int .u64 0, .int .u64 0] 56)
  have hbl : b < w.heap.size := by obtain ⟨_, _, _, _, _, _, _, hb⟩ := h; exact hb.lt
  have hll : lb < w.heap.size := h.2.2.2.2.2.1.lt
  have h0 := h.kept ((Fr.refl none_ w).alloc (.cells #[.int .u64 0, .int .u64 0] 56)) (fun f => f) (fun f => f)
  rcases gat_cases g who with ⟨ho, hg⟩ | ⟨n, p, rfl, hn, hp, hg⟩
  · have HA := fun wa (h : RgAt wa b lb seed grace g) => at_out h who ho
    rw [keyC_none hg, keyK_no (by decide)]
    clear h
    unfold keyv
    go_enter Try.func70, Try.ntmps70
    go_wp2_with fail
    refine (HA _ h0).mono ?_
    rintro e w1 ⟨rfl, rfl⟩
    go_wp2
    exact bodyPost_ret (v := .tuple #[.agg #[.int .u64 (u 0), .int .u64 (u 0)], .int .i64 3]) (by simp [results, Try.results70, go_sem]; decide) rfl ⟨rfl, h0, hF⟩
  · have HA := fun wa (h : RgAt wa b lb seed grace g) => at_in h n hn
    have hok := h.2.1 p (List.mem_of_getElem? hp)
    have hgr := h.2.2.1
    have hgr2 := h.2.2.2.1
    have hws : IntKind.i64.wrap (p.2 + grace) = p.2 + grace := IntWalk.i64_in _ (by omega)
    have hwm : IntKind.i64.wrap (p.1 - 1) = p.1 - 1 := IntWalk.i64_in _ (by omega)
    have hc := keyC_some hg grace gen now
    have HO : ∀ wa, Calls Try.prog 49 #[.int .u64 (u seed), .int .i64 n, .int .i64 gen] wa fun e w' => e = .returned (keyv (ofW seed n gen)) ∧ Fr none_ wa w' := fun wa => of_any seed n gen wa
    have hk0 := keyK_ok seed n gen
    have hk1 := keyK_no (c := 4) (by decide) seed n gen
    generalize keyC g grace n gen now = code at *
    generalize ofW seed n gen = kk at *
    clear h hg
    unfold keyv at *
    go_enter Try.func70, Try.ntmps70
    go_wp2_with fail
    generalize hr : w.heap.size = r at *
    generalize w.alloc (.cells #[.int .u64 0, .int .u64 0] 56) = w0 at *
    refine (HA _ h0).mono ?_
    rintro e w1 ⟨rfl, rfl⟩
    obtain ⟨q, k0, k2, k3, k4⟩ := h0.head
    go_wp2_with fail
    refine (aadd_any b 3 q 1 w0 k3 k4).mono ?_
    rintro e w1 ⟨rfl, hw1⟩
    have h1 := h0.asked (wrap64 (q + 1))
    have hR1 := hR.setCell_other (p := ⟨b, 3, none⟩) (by simp; omega) (.int .i64 (wrap64 (q + 1)))
    have hF1 := hF.setCell (p := ⟨b, 3, none⟩) (fun _ => .inl rfl) (.int .i64 (wrap64 (q + 1)))
    rw [← hw1] at h1 hR1 hF1
    clear hw1 h0 hR hF k0 k2 k3 k4 HA
    obtain ⟨q', k0, k2, _, _⟩ := h1.head
    obtain ⟨c0, c1⟩ := h1.cells hp
    have r0 : w1.cell? ⟨r, 0, none⟩ = some (.int .u64 0) := hR1.cell_of rfl
    have r1 : w1.cell? ⟨r, 1, none⟩ = some (.int .u64 0) := hR1.cell_of rfl
    have s0 := hR1.free 0
    have s1 := hR1.free 1
    obtain ⟨pm, hpm⟩ : ∃ pm, pm = p.1 - 1 := ⟨_, rfl⟩
    obtain ⟨ps, hps⟩ : ∃ ps, ps = p.2 + grace := ⟨_, rfl⟩
    replace hwm := hwm.trans hpm.symm
    replace hws := hws.trans hps.symm
    have hc : (gen = p.1 ∨ gen = pm ∧ 0 ≤ gen ∧ now < ps → code = 0) ∧ (gen ≠ p.1 ∧ (gen ≠ pm ∨ gen < 0 ∨ ps ≤ now) → code = 4) := by
      rw [hpm, hps]; exact hc
    have HPM := Lib.hid hpm
    clear hpm hps hok
    go_wp2_with fail
    have hcases : (code = 0 ∧ (gen != p.1) = false ∧ (gen == pm) = false) ∨ (code = 4 ∧ (gen != p.1) = true ∧ (gen == pm) = false) ∨ (code = 4 ∧ (gen != p.1) = true ∧ (gen == pm) = true ∧ decide (0 ≤ gen) = false) ∨ (code = 0 ∧ (gen != p.1) = true ∧ (gen == pm) = true ∧ decide (0 ≤ gen) = true ∧ decide (now < ps) = true) ∨ (code = 4 ∧ (gen != p.1) = true ∧ (gen == pm) = true ∧ decide (0 ≤ gen) = true ∧ decide (now < ps) = false) := by
      have hpm := HPM.out
      simp only [bne_iff_ne, bne_eq_false_iff_eq, beq_iff_eq, beq_eq_false_iff_ne, decide_eq_true_eq, decide_eq_false_iff_not]
      omega
    clear hc
    have hrr : r ≠ b ∧ r ≠ lb := ⟨by omega, by omega⟩
    generalize p.1 = g1 at *
    rcases hcases with ⟨hcode, d4, d1⟩ | ⟨hcode, d4, d1⟩ | ⟨hcode, d4, d1, d2⟩ | ⟨hcode, d4, d1, d2, d3⟩ | ⟨hcode, d4, d1, d2, d3⟩
    · skip
      refine region_tm [] [4, 16, 20] [0, 0, 2, 4, 8, 16, 33, 64, 128, 384, 640, 1152, 2048, 2048, 10240, 18432, 34816, 2048, 133120, 264192, 526336, 1116160, 2103296, 4196352, 16777215] [33554431, 33554431, 33554429, 33554427, 33554423, 33554415, 33554398, 33554367, 33554303, 33554047, 33553791, 33553407, 33552383, 33552383, 33544191, 33535999, 33519615, 33552383, 33421311, 33290239, 33028095, 32438271, 31451135, 29358079, 25165823] [0, 0, 2, 6, 14, 30, 63, 127, 255, 511, 1023, 2047, 4095, 4095, 12287, 28671, 61439, 4095, 135167, 397311, 921599, 2093055, 4194303, 8388607, 16777215] 33554431 (.quiet 0 (.quiet 1 (.quiet 2 (.quiet 3 (.quiet 4 (.quiet 5 (.quiet 6 (.quiet 7 (.quiet 8 (.quiet 9 (.quiet 10 (.quiet 11 (.quiet 12 (.quiet 13 (.quiet 14 (.quiet 15 (.quiet 16 (.quiet 17 (.quiet 18 (.quiet 19 (.quiet 20 (.quiet 21 (.quiet 22 (.quiet 23 (.quiet 24 .done))))))))))))))))))))))))) (fun _ => True) (by as_aux_lemma => kernel_rfl) (by as_aux_lemma => kernel_rfl) (by as_aux_lemma => kernel_rfl) (by as_aux_lemma => kernel_rfl) (by as_aux_lemma => kernel_rfl) (by as_aux_lemma => kernel_rfl) (by as_aux_lemma => kernel_rfl) (by as_aux_lemma => kernel_rfl) trivial ?_
      repeat' (first
        | (refine t_float (v := ?_) (a' := ?_) rfl rfl rfl ?_ ?_ ?_
           rotate_left 2
           · (intro w' _; go_simp; with_reducible rfl)
           · (simp only [Act.put, List.setIfInBounds_toArray, List.set_cons_zero, List.set_cons_succ]; rfl))
        | (refine t_bound (v := ?_) (a' := ?_) rfl rfl rfl ?_ ?_ ?_
           rotate_left 2
           · (go_simp; with_reducible rfl)
           · (simp only [Act.put, List.setIfInBounds_toArray, List.set_cons_zero, List.set_cons_succ]; rfl))
        | (refine t_skip (a' := ?_) rfl rfl ?_ ?_
           rotate_left 1
           · (simp only [Act.put, List.setIfInBounds_toArray, List.set_cons_zero, List.set_cons_succ]; rfl))
        | exact t_fin
        | (refine t_acts rfl rfl (fun K hK => ?_) ?_
           go_simp
           refine hK.out _ _ trivial ?_
           clear hK K))
      all_goals (refine t_done ?_)
      go_wp2_with fail
      refine (HO _).mono ?_
      rintro e w2 ⟨rfl, hf2⟩
      replace hf2 : Fr none_ w1 w2 := (Fr.refl none_ w1).drew.trans hf2
      have hR2 := hR1.kept hf2 (fun f => f)
      have h2 := h1.kept hf2 (fun f => f) (fun f => f)
      have hF2 := hF1.trans (hf2.mono (fun _ _ f => f.elim))
      clear hR1 h1 hF1 k0 k2 c0 c1 r0 r1 s0 s1
      have r0 : w2.cell? ⟨r, 0, none⟩ = some (.int .u64 0) := hR2.cell_of rfl
      have r1 : w2.cell? ⟨r, 1, none⟩ = some (.int .u64 0) := hR2.cell_of rfl
      have s0 := hR2.free 0
      have s1 := hR2.free 1
      have hR3 := (hR2.setCell 0 (.int .u64 (u kk.1))).setCell 1 (.int .u64 (u kk.2))
      have h3 := h2.kept (((Fr.refl (fun k => k = r) w2).setCell (p := ⟨r, 0, none⟩) (fun _ => rfl) (.int .u64 (u kk.1))).setCell (p := ⟨r, 1, none⟩) (fun _ => rfl) (.int .u64 (u kk.2))) (by omega) (by omega)
      have hF3 := (hF2.setCell (p := ⟨r, 0, none⟩) (fun h => by simp at h; omega) (.int .u64 (u kk.1))).setCell (p := ⟨r, 1, none⟩) (fun h => by simp at h; omega) (.int .u64 (u kk.2))
      go_wp2_with fail
      subst hcode
      rw [hk0]
      generalize (w2.setCell ⟨r, 0, none⟩ (.int .u64 (u kk.1))).setCell ⟨r, 1, none⟩ (.int .u64 (u kk.2)) = w3 at *
      have t0 : w3.cell? ⟨r, 0, none⟩ = some (.int .u64 (u kk.1)) := hR3.cell_of rfl
      have t1 : w3.cell? ⟨r, 1, none⟩ = some (.int .u64 (u kk.2)) := hR3.cell_of rfl
      exact bodyPost_ret (v := .tuple #[.agg #[.int .u64 (u kk.1), .int .u64 (u kk.2)], .int .i64 0]) (by simp [results, Try.results70, go_sem, t0, t1]) rfl ⟨rfl, h3, hF3⟩
    · skip
      refine region_tm [] [4, 16, 20] [0, 0, 2, 4, 8, 16, 33, 64, 128, 384, 640, 1152, 2048, 2048, 10240, 18432, 34816, 2048, 133120, 264192, 526336, 1116160, 2103296, 4196352, 16777215] [33554431, 33554431, 33554429, 33554427, 33554423, 33554415, 33554398, 33554367, 33554303, 33554047, 33553791, 33553407, 33552383, 33552383, 33544191, 33535999, 33519615, 33552383, 33421311, 33290239, 33028095, 32438271, 31451135, 29358079, 25165823] [0, 0, 2, 6, 14, 30, 63, 127, 255, 511, 1023, 2047, 4095, 4095, 12287, 28671, 61439, 4095, 135167, 397311, 921599, 2093055, 4194303, 8388607, 16777215] 33554431 (.quiet 0 (.quiet 1 (.quiet 2 (.quiet 3 (.quiet 4 (.quiet 5 (.quiet 6 (.quiet 7 (.quiet 8 (.quiet 9 (.quiet 10 (.quiet 11 (.quiet 12 (.quiet 13 (.quiet 14 (.quiet 15 (.quiet 16 (.quiet 17 (.quiet 18 (.quiet 19 (.quiet 20 (.quiet 21 (.quiet 22 (.quiet 23 (.quiet 24 .done))))))))))))))))))))))))) (fun _ => True) (by as_aux_lemma => kernel_rfl) (by as_aux_lemma => kernel_rfl) (by as_aux_lemma => kernel_rfl) (by as_aux_lemma => kernel_rfl) (by as_aux_lemma => kernel_rfl) (by as_aux_lemma => kernel_rfl) (by as_aux_lemma => kernel_rfl) (by as_aux_lemma => kernel_rfl) trivial ?_
      repeat' (first
        | (refine t_float (v := ?_) (a' := ?_) rfl rfl rfl ?_ ?_ ?_
           rotate_left 2
           · (intro w' _; go_simp; with_reducible rfl)
           · (simp only [Act.put, List.setIfInBounds_toArray, List.set_cons_zero, List.set_cons_succ]; rfl))
        | (refine t_bound (v := ?_) (a' := ?_) rfl rfl rfl ?_ ?_ ?_
           rotate_left 2
           · (go_simp; with_reducible rfl)
           · (simp only [Act.put, List.setIfInBounds_toArray, List.set_cons_zero, List.set_cons_succ]; rfl))
        | (refine t_skip (a' := ?_) rfl rfl ?_ ?_
           rotate_left 1
           · (simp only [Act.put, List.setIfInBounds_toArray, List.set_cons_zero, List.set_cons_succ]; rfl))
        | exact t_fin
        | (refine t_acts rfl rfl (fun K hK => ?_) ?_
           go_simp
           refine hK.out _ _ trivial ?_
           clear hK K))
      all_goals (refine t_done ?_)
      go_wp2
      subst hcode
      rw [hk1]
      have hh := h1.kept (((Fr.refl (fun k => k = r) w1).setCell (p := ⟨r, 0, none⟩) (fun _ => rfl) (.int .u64 0)).setCell (p := ⟨r, 1, none⟩) (fun _ => rfl) (.int .u64 0)).drew (by omega) (by omega)
      have hF3 := ((hF1.setCell (p := ⟨r, 0, none⟩) (fun h => by simp at h; omega) (.int .u64 0)).setCell (p := ⟨r, 1, none⟩) (fun h => by simp at h; omega) (.int .u64 0)).drew
      have hR3 := ((hR1.setCell 0 (.int .u64 0)).setCell 1 (.int .u64 0)).drew
      generalize ((w1.setCell ⟨r, 0, none⟩ (.int .u64 0)).setCell ⟨r, 1, none⟩ (.int .u64 0)).drew = w3 at *
      have t0 : w3.cell? ⟨r, 0, none⟩ = some (.int .u64 0) := hR3.cell_of rfl
      have t1 : w3.cell? ⟨r, 1, none⟩ = some (.int .u64 0) := hR3.cell_of rfl
      exact bodyPost_ret (v := .tuple #[.agg #[.int .u64 (u 0), .int .u64 (u 0)], .int .i64 4]) (by simp [results, Try.results70, go_sem, t0, t1]; try (first | done | decide)) rfl ⟨rfl, hh, hF3⟩
    · skip
      refine region_tm [] [4, 16, 20] [0, 0, 2, 4, 8, 16, 33, 64, 128, 384, 640, 1152, 2048, 2048, 10240, 18432, 34816, 2048, 133120, 264192, 526336, 1116160, 2103296, 4196352, 16777215] [33554431, 33554431, 33554429, 33554427, 33554423, 33554415, 33554398, 33554367, 33554303, 33554047, 33553791, 33553407, 33552383, 33552383, 33544191, 33535999, 33519615, 33552383, 33421311, 33290239, 33028095, 32438271, 31451135, 29358079, 25165823] [0, 0, 2, 6, 14, 30, 63, 127, 255, 511, 1023, 2047, 4095, 4095, 12287, 28671, 61439, 4095, 135167, 397311, 921599, 2093055, 4194303, 8388607, 16777215] 33554431 (.quiet 0 (.quiet 1 (.quiet 2 (.quiet 3 (.quiet 4 (.quiet 5 (.quiet 6 (.quiet 7 (.quiet 8 (.quiet 9 (.quiet 10 (.quiet 11 (.quiet 12 (.quiet 13 (.quiet 14 (.quiet 15 (.quiet 16 (.quiet 17 (.quiet 18 (.quiet 19 (.quiet 20 (.quiet 21 (.quiet 22 (.quiet 23 (.quiet 24 .done))))))))))))))))))))))))) (fun _ => True) (by as_aux_lemma => kernel_rfl) (by as_aux_lemma => kernel_rfl) (by as_aux_lemma => kernel_rfl) (by as_aux_lemma => kernel_rfl) (by as_aux_lemma => kernel_rfl) (by as_aux_lemma => kernel_rfl) (by as_aux_lemma => kernel_rfl) (by as_aux_lemma => kernel_rfl) trivial ?_
      repeat' (first
        | (refine t_float (v := ?_) (a' := ?_) rfl rfl rfl ?_ ?_ ?_
           rotate_left 2
           · (intro w' _; go_simp; with_reducible rfl)
           · (simp only [Act.put, List.setIfInBounds_toArray, List.set_cons_zero, List.set_cons_succ]; rfl))
        | (refine t_bound (v := ?_) (a' := ?_) rfl rfl rfl ?_ ?_ ?_
           rotate_left 2
           · (go_simp; with_reducible rfl)
           · (simp only [Act.put, List.setIfInBounds_toArray, List.set_cons_zero, List.set_cons_succ]; rfl))
        | (refine t_skip (a' := ?_) rfl rfl ?_ ?_
           rotate_left 1
           · (simp only [Act.put, List.setIfInBounds_toArray, List.set_cons_zero, List.set_cons_succ]; rfl))
        | exact t_fin
        | (refine t_acts rfl rfl (fun K hK => ?_) ?_
           go_simp
           refine hK.out _ _ trivial ?_
           clear hK K))
      all_goals (refine t_done ?_)
      go_wp2
      subst hcode
      rw [hk1]
      have hh := h1.kept (((Fr.refl (fun k => k = r) w1).setCell (p := ⟨r, 0, none⟩) (fun _ => rfl) (.int .u64 0)).setCell (p := ⟨r, 1, none⟩) (fun _ => rfl) (.int .u64 0)).drew (by omega) (by omega)
      have hF3 := ((hF1.setCell (p := ⟨r, 0, none⟩) (fun h => by simp at h; omega) (.int .u64 0)).setCell (p := ⟨r, 1, none⟩) (fun h => by simp at h; omega) (.int .u64 0)).drew
      have hR3 := ((hR1.setCell 0 (.int .u64 0)).setCell 1 (.int .u64 0)).drew
      generalize ((w1.setCell ⟨r, 0, none⟩ (.int .u64 0)).setCell ⟨r, 1, none⟩ (.int .u64 0)).drew = w3 at *
      have t0 : w3.cell? ⟨r, 0, none⟩ = some (.int .u64 0) := hR3.cell_of rfl
      have t1 : w3.cell? ⟨r, 1, none⟩ = some (.int .u64 0) := hR3.cell_of rfl
      exact bodyPost_ret (v := .tuple #[.agg #[.int .u64 (u 0), .int .u64 (u 0)], .int .i64 4]) (by simp [results, Try.results70, go_sem, t0, t1]; try (first | done | decide)) rfl ⟨rfl, hh, hF3⟩
    · skip
      refine region_tm [] [4, 16, 20] [0, 0, 2, 4, 8, 16, 33, 64, 128, 384, 640, 1152, 2048, 2048, 10240, 18432, 34816, 2048, 133120, 264192, 526336, 1116160, 2103296, 4196352, 16777215] [33554431, 33554431, 33554429, 33554427, 33554423, 33554415, 33554398, 33554367, 33554303, 33554047, 33553791, 33553407, 33552383, 33552383, 33544191, 33535999, 33519615, 33552383, 33421311, 33290239, 33028095, 32438271, 31451135, 29358079, 25165823] [0, 0, 2, 6, 14, 30, 63, 127, 255, 511, 1023, 2047, 4095, 4095, 12287, 28671, 61439, 4095, 135167, 397311, 921599, 2093055, 4194303, 8388607, 16777215] 33554431 (.quiet 0 (.quiet 1 (.quiet 2 (.quiet 3 (.quiet 4 (.quiet 5 (.quiet 6 (.quiet 7 (.quiet 8 (.quiet 9 (.quiet 10 (.quiet 11 (.quiet 12 (.quiet 13 (.quiet 14 (.quiet 15 (.quiet 16 (.quiet 17 (.quiet 18 (.quiet 19 (.quiet 20 (.quiet 21 (.quiet 22 (.quiet 23 (.quiet 24 .done))))))))))))))))))))))))) (fun _ => True) (by as_aux_lemma => kernel_rfl) (by as_aux_lemma => kernel_rfl) (by as_aux_lemma => kernel_rfl) (by as_aux_lemma => kernel_rfl) (by as_aux_lemma => kernel_rfl) (by as_aux_lemma => kernel_rfl) (by as_aux_lemma => kernel_rfl) (by as_aux_lemma => kernel_rfl) trivial ?_
      repeat' (first
        | (refine t_float (v := ?_) (a' := ?_) rfl rfl rfl ?_ ?_ ?_
           rotate_left 2
           · (intro w' _; go_simp; with_reducible rfl)
           · (simp only [Act.put, List.setIfInBounds_toArray, List.set_cons_zero, List.set_cons_succ]; rfl))
        | (refine t_bound (v := ?_) (a' := ?_) rfl rfl rfl ?_ ?_ ?_
           rotate_left 2
           · (go_simp; with_reducible rfl)
           · (simp only [Act.put, List.setIfInBounds_toArray, List.set_cons_zero, List.set_cons_succ]; rfl))
        | (refine t_skip (a' := ?_) rfl rfl ?_ ?_
           rotate_left 1
           · (simp only [Act.put, List.setIfInBounds_toArray, List.set_cons_zero, List.set_cons_succ]; rfl))
        | exact t_fin
        | (refine t_acts rfl rfl (fun K hK => ?_) ?_
           go_simp
           refine hK.out _ _ trivial ?_
           clear hK K))
      all_goals (refine t_done ?_)
      go_wp2_with fail
      refine (HO _).mono ?_
      rintro e w2 ⟨rfl, hf2⟩
      replace hf2 : Fr none_ w1 w2 := (Fr.refl none_ w1).drew.trans hf2
      have hR2 := hR1.kept hf2 (fun f => f)
      have h2 := h1.kept hf2 (fun f => f) (fun f => f)
      have hF2 := hF1.trans (hf2.mono (fun _ _ f => f.elim))
      clear hR1 h1 hF1 k0 k2 c0 c1 r0 r1 s0 s1
      have r0 : w2.cell? ⟨r, 0, none⟩ = some (.int .u64 0) := hR2.cell_of rfl
      have r1 : w2.cell? ⟨r, 1, none⟩ = some (.int .u64 0) := hR2.cell_of rfl
      have s0 := hR2.free 0
      have s1 := hR2.free 1
      have hR3 := (hR2.setCell 0 (.int .u64 (u kk.1))).setCell 1 (.int .u64 (u kk.2))
      have h3 := h2.kept (((Fr.refl (fun k => k = r) w2).setCell (p := ⟨r, 0, none⟩) (fun _ => rfl) (.int .u64 (u kk.1))).setCell (p := ⟨r, 1, none⟩) (fun _ => rfl) (.int .u64 (u kk.2))) (by omega) (by omega)
      have hF3 := (hF2.setCell (p := ⟨r, 0, none⟩) (fun h => by simp at h; omega) (.int .u64 (u kk.1))).setCell (p := ⟨r, 1, none⟩) (fun h => by simp at h; omega) (.int .u64 (u kk.2))
      go_wp2_with fail
      subst hcode
      rw [hk0]
      generalize (w2.setCell ⟨r, 0, none⟩ (.int .u64 (u kk.1))).setCell ⟨r, 1, none⟩ (.int .u64 (u kk.2)) = w3 at *
      have t0 : w3.cell? ⟨r, 0, none⟩ = some (.int .u64 (u kk.1)) := hR3.cell_of rfl
      have t1 : w3.cell? ⟨r, 1, none⟩ = some (.int .u64 (u kk.2)) := hR3.cell_of rfl
      exact bodyPost_ret (v := .tuple #[.agg #[.int .u64 (u kk.1), .int .u64 (u kk.2)], .int .i64 0]) (by simp [results, Try.results70, go_sem, t0, t1]) rfl ⟨rfl, h3, hF3⟩
    · skip
      refine region_tm [] [4, 16, 20] [0, 0, 2, 4, 8, 16, 33, 64, 128, 384, 640, 1152, 2048, 2048, 10240, 18432, 34816, 2048, 133120, 264192, 526336, 1116160, 2103296, 4196352, 16777215] [33554431, 33554431, 33554429, 33554427, 33554423, 33554415, 33554398, 33554367, 33554303, 33554047, 33553791, 33553407, 33552383, 33552383, 33544191, 33535999, 33519615, 33552383, 33421311, 33290239, 33028095, 32438271, 31451135, 29358079, 25165823] [0, 0, 2, 6, 14, 30, 63, 127, 255, 511, 1023, 2047, 4095, 4095, 12287, 28671, 61439, 4095, 135167, 397311, 921599, 2093055, 4194303, 8388607, 16777215] 33554431 (.quiet 0 (.quiet 1 (.quiet 2 (.quiet 3 (.quiet 4 (.quiet 5 (.quiet 6 (.quiet 7 (.quiet 8 (.quiet 9 (.quiet 10 (.quiet 11 (.quiet 12 (.quiet 13 (.quiet 14 (.quiet 15 (.quiet 16 (.quiet 17 (.quiet 18 (.quiet 19 (.quiet 20 (.quiet 21 (.quiet 22 (.quiet 23 (.quiet 24 .done))))))))))))))))))))))))) (fun _ => True) (by as_aux_lemma => kernel_rfl) (by as_aux_lemma => kernel_rfl) (by as_aux_lemma => kernel_rfl) (by as_aux_lemma => kernel_rfl) (by as_aux_lemma => kernel_rfl) (by as_aux_lemma => kernel_rfl) (by as_aux_lemma => kernel_rfl) (by as_aux_lemma => kernel_rfl) trivial ?_
      repeat' (first
        | (refine t_float (v := ?_) (a' := ?_) rfl rfl rfl ?_ ?_ ?_
           rotate_left 2
           · (intro w' _; go_simp; with_reducible rfl)
           · (simp only [Act.put, List.setIfInBounds_toArray, List.set_cons_zero, List.set_cons_succ]; rfl))
        | (refine t_bound (v := ?_) (a' := ?_) rfl rfl rfl ?_ ?_ ?_
           rotate_left 2
           · (go_simp; with_reducible rfl)
           · (simp only [Act.put, List.setIfInBounds_toArray, List.set_cons_zero, List.set_cons_succ]; rfl))
        | (refine t_skip (a' := ?_) rfl rfl ?_ ?_
           rotate_left 1
           · (simp only [Act.put, List.setIfInBounds_toArray, List.set_cons_zero, List.set_cons_succ]; rfl))
        | exact t_fin
        | (refine t_acts rfl rfl (fun K hK => ?_) ?_
           go_simp
           refine hK.out _ _ trivial ?_
           clear hK K))
      all_goals (refine t_done ?_)
      go_wp2
      subst hcode
      rw [hk1]
      have hh := h1.kept (((Fr.refl (fun k => k = r) w1).setCell (p := ⟨r, 0, none⟩) (fun _ => rfl) (.int .u64 0)).setCell (p := ⟨r, 1, none⟩) (fun _ => rfl) (.int .u64 0)).drew (by omega) (by omega)
      have hF3 := ((hF1.setCell (p := ⟨r, 0, none⟩) (fun h => by simp at h; omega) (.int .u64 0)).setCell (p := ⟨r, 1, none⟩) (fun h => by simp at h; omega) (.int .u64 0)).drew
      have hR3 := ((hR1.setCell 0 (.int .u64 0)).setCell 1 (.int .u64 0)).drew
      generalize ((w1.setCell ⟨r, 0, none⟩ (.int .u64 0)).setCell ⟨r, 1, none⟩ (.int .u64 0)).drew = w3 at *
      have t0 : w3.cell? ⟨r, 0, none⟩ = some (.int .u64 0) := hR3.cell_of rfl
      have t1 : w3.cell? ⟨r, 1, none⟩ = some (.int .u64 0) := hR3.cell_of rfl
      exact bodyPost_ret (v := .tuple #[.agg #[.int .u64 (u 0), .int .u64 (u 0)], .int .i64 4]) (by simp [results, Try.results70, go_sem, t0, t1]; try (first | done | decide)) rfl ⟨rfl, hh, hF3⟩
end
end Go.Proofs.Ytandenkoejbloaa
