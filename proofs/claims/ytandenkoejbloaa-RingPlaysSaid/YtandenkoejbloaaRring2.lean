/- Walks of the document's ring: Rotate, Set. -/
import Derived.Test.YtandenkoejbloaaRring1
namespace Go.Proofs.Ytandenkoejbloaa
open Go Go.RowKit
section
variable {b gb sb : Nat} {seed : W} {grace : Int} {g : Gs} {w : World}
theorem RfAt.head (h : RfAt w b gb sb seed grace g) : w.cell? ⟨b, 0, none⟩ = some (.int .u64 (u seed)) ∧ w.cell? ⟨b, 1, none⟩ = some (.int .i64 grace) ∧ w.cell? ⟨b, 2, none⟩ = some (.slice (some ⟨gb, 0, none⟩) g.length g.length) ∧ w.cell? ⟨b, 3, none⟩ = some (.slice (some ⟨sb, 0, none⟩) g.length g.length) := by
  obtain ⟨_, _, _, _, _, _, _, _, _, hb⟩ := h
  exact ⟨hb.cell_of rfl, hb.cell_of rfl, hb.cell_of rfl, hb.cell_of rfl⟩
theorem RfAt.cells (h : RfAt w b gb sb seed grace g) {n : Nat} {p : Int × Int} (hp : g[n]? = some p) : w.cell? ⟨gb, n, none⟩ = some (.int .i64 p.1) ∧ w.cell? ⟨sb, n, none⟩ = some (.int .i64 p.2) ∧ w.frozen? ⟨gb, n, none⟩ = false ∧ w.frozen? ⟨sb, n, none⟩ = false := by
  obtain ⟨_, _, _, _, _, _, _, h1, h2, _⟩ := h
  exact ⟨h1.cell_of (by rw [List.getElem?_map, hp]; rfl), h2.cell_of (by rw [List.getElem?_map, hp]; rfl), h1.free n, h2.free n⟩
theorem RfAt.drew (h : RfAt w b gb sb seed grace g) : RfAt w.drew b gb sb seed grace g := h
theorem RfAt.put (h : RfAt w b gb sb seed grace g) (n : Nat) {x y : Int} (h1 : 0 ≤ x) (h2 : x ≤ 60000) (h3 : 0 ≤ y) (h4 : y ≤ 1099511627776) :
    RfAt ((w.setCell ⟨gb, n, none⟩ (.int .i64 x)).setCell ⟨sb, n, none⟩ (.int .i64 y)) b gb sb seed grace (g.set n (x, y)) := by
  obtain ⟨a1, a2, a3, a4, a5, a6, a7, a8, a9, a10⟩ := h
  refine ⟨a1, a2, a3, okG_set a4 n h1 h2 h3 h4, a5, a6, by rw [List.length_set]; exact a7, ?_, ?_, ?_⟩
  · have := (a8.setCell n (.int .i64 x)).setCell_other (p := ⟨sb, n, none⟩) (Ne.symm a3) (.int .i64 y)
    rw [List.map_set]; exact this
  · have := (a9.setCell_other (p := ⟨gb, n, none⟩) a3 (.int .i64 x)).setCell n (.int .i64 y)
    rw [List.map_set]; exact this
  · rw [List.length_set]
    exact (a10.setCell_other (Ne.symm a1) _).setCell_other (Ne.symm a2) _
end
theorem rtwo_put (w : World) (gb sb n : Nat) (x y : Int) : Fr (rtwo gb sb) w ((w.setCell ⟨gb, n, none⟩ (.int .i64 x)).setCell ⟨sb, n, none⟩ (.int .i64 y)) :=
  ((Fr.refl (rtwo gb sb) w).setCell (p := ⟨gb, n, none⟩) (fun _ => .inl rfl) _).setCell (p := ⟨sb, n, none⟩) (fun _ => .inr rfl) _
section
variable {b gb sb : Nat} {seed : W} {grace : Int} {g : Gs} {w : World}
set_option maxRecDepth 100000 in
set_option maxHeartbeats 1600000 in
theorem frot_any (h : RfAt w b gb sb seed grace g) (who gen now : Int) (hgen : gen ≤ 9223372036854775807) : Calls Try.prog 67 #[.pointer (some ⟨b, 0, none⟩), .int .i64 who, .int .i64 gen, .int .i64 now] w fun e w' =>
    e = .returned (.int .i64 (rotC g who gen now)) ∧ RfAt w' b gb sb seed grace (putG g (rotC g who gen now) who gen now) ∧ Fr (rtwo gb sb) w w' := by
  obtain ⟨k0, k1, k2, k3⟩ := h.head
  rcases gat_cases g who with ⟨ho, hg⟩ | ⟨n, p, rfl, hn, hp, hg⟩
  · rw [rotC_none hg, putG_no (by decide)]
    have HH := Lib.hid h
    clear h
    go_enter Try.func67, Try.ntmps67
    go_wp2_with fail
    all_goals first
      | (exfalso; omega)
      | exact bodyPost_ret (v := .int .i64 3) (by simp [results, Try.results67, go_sem]) rfl ⟨rfl, HH.out, Fr.refl _ _⟩
  · obtain ⟨c0, c1, f0, f1⟩ := h.cells hp
    have hok := h.2.2.2.1 p (List.mem_of_getElem? hp)
    have hc := rotC_some hg gen now
    generalize rotC g n gen now = code at *
    have hne := h.2.2.1
    have HH := Lib.hid h
    have hd1 : decide ((n : Int) < 0) = false := by simp
    have hd2 : decide (g.length ≤ n) = false := by simp; exact hn
    by_cases hg1 : gen < 1
    · have hcc : code = 4 := by omega
      have d1 : decide (gen < 1) = true := by simp [hg1]
      subst hcc
      rw [putG_no (by decide)]
      clear h hc
      go_enter Try.func67, Try.ntmps67
      go_wp2_with fail
      exact bodyPost_ret (v := .int .i64 4) (by simp [results, Try.results67, go_sem]) rfl ⟨rfl, HH.out, Fr.refl _ _⟩
    · have d1 : decide (gen < 1) = false := by simp; omega
      have hwp : IntKind.i64.wrap (gen - 1) = gen - 1 := IntWalk.i64_in _ (by omega)
      obtain ⟨gm, hgm⟩ : ∃ gm, gm = gen - 1 := ⟨_, rfl⟩
      replace hwp := hwp.trans hgm.symm
      have hcases : (code = 4 ∧ (gm != p.1) = true) ∨ (code = 4 ∧ (gm != p.1) = false ∧ decide (60000 < gen) = true) ∨ (code = 1 ∧ (gm != p.1) = false ∧ decide (60000 < gen) = false ∧ decide (now < 0) = true) ∨ (code = 1 ∧ (gm != p.1) = false ∧ decide (60000 < gen) = false ∧ decide (now < 0) = false ∧ decide (1099511627776 < now) = true) ∨ (code = 0 ∧ (gm != p.1) = false ∧ decide (60000 < gen) = false ∧ decide (now < 0) = false ∧ decide (1099511627776 < now) = false) := by
        simp only [bne_iff_ne, bne_eq_false_iff_eq, decide_eq_true_eq, decide_eq_false_iff_not]
        omega
      have HB := Lib.hid hgm
      clear hc hgm h
      obtain ⟨p1, p2⟩ := p
      dsimp only at *
      rcases hcases with ⟨hcc, d2⟩ | ⟨hcc, d2, d3⟩ | ⟨hcc, d2, d3, d4⟩ | ⟨hcc, d2, d3, d4, d5⟩ | ⟨hcc, d2, d3, d4, d5⟩
      iterate 2
        · subst hcc
          rw [putG_no (by decide)]
          go_enter Try.func67, Try.ntmps67
          go_wp2_with fail
          exact bodyPost_ret (v := .int .i64 4) (by simp [results, Try.results67, go_sem]) rfl ⟨rfl, HH.out, Fr.refl _ _⟩
      iterate 2
        · subst hcc
          rw [putG_no (by decide)]
          go_enter Try.func67, Try.ntmps67
          go_wp2_with fail
          exact bodyPost_ret (v := .int .i64 1) (by simp [results, Try.results67, go_sem]) rfl ⟨rfl, HH.out, Fr.refl _ _⟩
      · subst hcc
        rw [putG_ok]
        go_enter Try.func67, Try.ntmps67
        go_wp2_with fail
        refine region_pi [13, 15] [3, 8] [0, 1, 2, 3, 4, 5, 6, 7, 8, 9, 10, 11, 12, 13, 14, 15] (fun _ => True) (by as_aux_lemma => kernel_rfl) (by as_aux_lemma => kernel_rfl) (by as_aux_lemma => kernel_rfl) (by as_aux_lemma => kernel_rfl) (by as_aux_lemma => kernel_rfl) trivial ?_
        repeat (first
          | (refine pi_float (v := ?_) (a' := ?_) rfl rfl rfl rfl ?_ ?_ ?_
             rotate_left 2
             · (intro w' _; go_simp; with_reducible rfl)
             · (simp only [Act.put, List.setIfInBounds_toArray, List.set_cons_zero, List.set_cons_succ]; rfl))
          | (refine pi_bound (v := ?_) (a' := ?_) rfl rfl rfl rfl ?_ ?_ ?_
             rotate_left 2
             · (go_simp; with_reducible rfl)
             · (simp only [Act.put, List.setIfInBounds_toArray, List.set_cons_zero, List.set_cons_succ]; rfl))
          | (refine pi_acts rfl rfl rfl (fun K hK => ?_)
             go_simp
             refine hK.out _ _ trivial ?_
             clear hK K))
        refine pi_done ?_
        go_wp2_with fail
        have hgg := HB.out
        exact bodyPost_ret (v := .int .i64 0) (by simp [results, Try.results67, go_sem]) rfl ⟨rfl, (HH.out.put n (by simp at d2; omega) (by simp at d3; omega) (by simp at d4; omega) (by simp at d5; omega)).drew, (rtwo_put _ _ _ _ _ _).drew⟩

set_option maxRecDepth 100000 in
set_option maxHeartbeats 1600000 in
theorem fset_any (h : RfAt w b gb sb seed grace g) (who gen now : Int) : Calls Try.prog 69 #[.pointer (some ⟨b, 0, none⟩), .int .i64 who, .int .i64 gen, .int .i64 now] w fun e w' =>
    e = .returned (.int .i64 (setC g who gen now)) ∧ RfAt w' b gb sb seed grace (putG g (setC g who gen now) who gen now) ∧ Fr (rtwo gb sb) w w' := by
  obtain ⟨k0, k1, k2, k3⟩ := h.head
  rcases gat_cases g who with ⟨ho, hg⟩ | ⟨n, p, rfl, hn, hp, hg⟩
  · rw [setC_none hg, putG_no (by decide)]
    have HH := Lib.hid h
    clear h
    go_enter Try.func69, Try.ntmps69
    go_wp2_with fail
    all_goals first
      | (exfalso; omega)
      | exact bodyPost_ret (v := .int .i64 3) (by simp [results, Try.results69, go_sem]) rfl ⟨rfl, HH.out, Fr.refl _ _⟩
  · obtain ⟨c0, c1, f0, f1⟩ := h.cells hp
    have hc := setC_some hg gen now
    generalize setC g n gen now = code at *
    have hne := h.2.2.1
    have HH := Lib.hid h
    have hd1 : decide ((n : Int) < 0) = false := by simp
    have hd2 : decide (g.length ≤ n) = false := by simp; exact hn
    have hcases : (code = 1 ∧ (gen < 0 ∨ 60000 < gen ∨ now < 0 ∨ 1099511627776 < now)) ∨ (code = 0 ∧ decide (gen < 0) = false ∧ decide (60000 < gen) = false ∧ decide (now < 0) = false ∧ decide (1099511627776 < now) = false) := by
      simp only [decide_eq_false_iff_not]
      omega
    clear hc h
    rcases hcases with ⟨hcc, d2⟩ | ⟨hcc, d2, d3, d4, d5⟩
    · subst hcc
      rw [putG_no (by decide)]
      go_enter Try.func69, Try.ntmps69
      go_wp2_with fail
      all_goals first
        | (exfalso; omega)
        | exact bodyPost_ret (v := .int .i64 1) (by simp [results, Try.results69, go_sem]) rfl ⟨rfl, HH.out, Fr.refl _ _⟩
    · subst hcc
      rw [putG_ok]
      go_enter Try.func69, Try.ntmps69
      go_wp2_with fail
      refine region_pi [13, 15] [3, 8] [0, 1, 2, 3, 4, 5, 6, 7, 8, 9, 10, 11, 12, 13, 14, 15] (fun _ => True) (by as_aux_lemma => kernel_rfl) (by as_aux_lemma => kernel_rfl) (by as_aux_lemma => kernel_rfl) (by as_aux_lemma => kernel_rfl) (by as_aux_lemma => kernel_rfl) trivial ?_
      repeat (first
        | (refine pi_float (v := ?_) (a' := ?_) rfl rfl rfl rfl ?_ ?_ ?_
           rotate_left 2
           · (intro w' _; go_simp; with_reducible rfl)
           · (simp only [Act.put, List.setIfInBounds_toArray, List.set_cons_zero, List.set_cons_succ]; rfl))
        | (refine pi_bound (v := ?_) (a' := ?_) rfl rfl rfl rfl ?_ ?_ ?_
           rotate_left 2
           · (go_simp; with_reducible rfl)
           · (simp only [Act.put, List.setIfInBounds_toArray, List.set_cons_zero, List.set_cons_succ]; rfl))
        | (refine pi_acts rfl rfl rfl (fun K hK => ?_)
           go_simp
           refine hK.out _ _ trivial ?_
           clear hK K))
      refine pi_done ?_
      go_wp2_with fail
      exact bodyPost_ret (v := .int .i64 0) (by simp [results, Try.results69, go_sem]) rfl ⟨rfl, (HH.out.put n (by simp at d2; omega) (by simp at d3; omega) (by simp at d4; omega) (by simp at d5; omega)).drew, (rtwo_put _ _ _ _ _ _).drew⟩
end
end Go.Proofs.Ytandenkoejbloaa
