/- Walk of the document's Split. -/
import Derived.Test.YtandenkoejbloaaRws
namespace Go.Proofs.Ytandenkoejbloaa
open Go Go.RowKit

theorem rgetm_any (l : List UInt8) (w : World) : Calls Try.prog 58 #[.string (bs l)] w fun e w' => e = .returned (.tuple #[msgv (gv l), .int .i64 (gc l)]) ∧ Fr none_ w w' := by
  by_cases hl : l.length = 32
  · exact rget_32 l w hl
  · exact rget_short l w hl

set_option maxRecDepth 100000 in
set_option maxHeartbeats 3200000 in
theorem rsplit_short (l : List UInt8) (w : World) (hl : l.length ≠ 48) :
    Calls Try.prog 60 #[.string (bs l)] w fun e w' => e = .returned (.tuple #[msgv zeroM, .string (bs []), keyv (0, 0), .int .i64 2]) ∧ Fr none_ w w' := by
  have hF := ((Fr.refl none_ w).alloc (.cells #[.int .i64 0, .int .i64 0, .int .i64 0, .int .i64 0, .int .i64 0, .int .i64 0, .int .i64 0] 68)).alloc (.cells #[.int .u64 0, .int .u64 0] 52)
  have hsz : ((bs l).size : Int) = (l.length : Int) := by rw [bs_size]
  have hne : decide ((l.length : Int) = 48) = false := by simp; omega
  go_enter Try.func60, Try.ntmps60
  go_wp2_with fail
  exact bodyPost_ret (v := .tuple #[.agg #[.int .i64 0, .int .i64 0, .int .i64 0, .int .i64 0, .int .i64 0, .int .i64 0, .int .i64 0], .string (bs []), .agg #[.int .u64 0, .int .u64 0], .int .i64 2]) (by simp [results, Try.results60, go_sem]; rfl) rfl ⟨rfl, hF⟩

set_option maxRecDepth 100000 in
set_option maxHeartbeats 3200000 in
theorem rsplit_none (l : List UInt8) (w : World) (hl : l.length = 48) (hn : getM (l.take 32) = none) :
    Calls Try.prog 60 #[.string (bs l)] w fun e w' => e = .returned (.tuple #[msgv zeroM, .string (bs []), keyv (0, 0), .int .i64 2]) ∧ Fr none_ w w' := by
  have hG := fun wa => rgetm_any (l.take 32) wa
  have e1 : gv (l.take 32) = zeroM := by unfold gv; rw [hn]; rfl
  have e2 : gc (l.take 32) = 2 := by unfold gc; rw [hn]; rfl
  rw [e1, e2] at hG
  have hsz : (bs l).size = 48 := by rw [bs_size, hl]
  have hext : (bs l).extract 0 32 = bs (l.take 32) := by rw [bs_extract]; rfl
  have hB := (Blk.new w #[.int .i64 0, .int .i64 0, .int .i64 0, .int .i64 0, .int .i64 0, .int .i64 0, .int .i64 0] 68).alloc (.cells #[.int .u64 0, .int .u64 0] 52)
  have hT := Blk.new (w.alloc (.cells #[.int .i64 0, .int .i64 0, .int .i64 0, .int .i64 0, .int .i64 0, .int .i64 0, .int .i64 0] 68)) #[.int .u64 0, .int .u64 0] 52
  rw [World.size_alloc] at hT
  have hF := ((Fr.refl none_ w).alloc (.cells #[.int .i64 0, .int .i64 0, .int .i64 0, .int .i64 0, .int .i64 0, .int .i64 0, .int .i64 0] 68)).alloc (.cells #[.int .u64 0, .int .u64 0] 52)
  unfold msgv zeroM at *
  go_enter Try.func60, Try.ntmps60
  go_wp2_with fail
  generalize (w.alloc (.cells #[.int .i64 0, .int .i64 0, .int .i64 0, .int .i64 0, .int .i64 0, .int .i64 0, .int .i64 0] 68)).alloc (.cells #[.int .u64 0, .int .u64 0] 52) = w0 at *
  refine (hG _).mono ?_
  rintro e w1 ⟨rfl, hf1⟩
  have hB1 := (hB.kept hf1 (fun f => f)).alloc (.cells #[.int .i64 0, .int .i64 0, .int .i64 0, .int .i64 0, .int .i64 0, .int .i64 0, .int .i64 0] 68)
  have hT1 := (hT.kept hf1 (fun f => f)).alloc (.cells #[.int .i64 0, .int .i64 0, .int .i64 0, .int .i64 0, .int .i64 0, .int .i64 0, .int .i64 0] 68)
  have hF1 := (hF.trans hf1).alloc (.cells #[.int .i64 0, .int .i64 0, .int .i64 0, .int .i64 0, .int .i64 0, .int .i64 0, .int .i64 0] 68)
  clear hB hT hF hf1 hG
  have b0 : (w1.alloc (.cells #[.int .i64 0, .int .i64 0, .int .i64 0, .int .i64 0, .int .i64 0, .int .i64 0, .int .i64 0] 68)).cell? ⟨w.heap.size, 0, none⟩ = some (.int .i64 0) := hB1.cell_of rfl
  have f0 := hB1.free 0
  have b1 : (w1.alloc (.cells #[.int .i64 0, .int .i64 0, .int .i64 0, .int .i64 0, .int .i64 0, .int .i64 0, .int .i64 0] 68)).cell? ⟨w.heap.size, 1, none⟩ = some (.int .i64 0) := hB1.cell_of rfl
  have f1 := hB1.free 1
  have b2 : (w1.alloc (.cells #[.int .i64 0, .int .i64 0, .int .i64 0, .int .i64 0, .int .i64 0, .int .i64 0, .int .i64 0] 68)).cell? ⟨w.heap.size, 2, none⟩ = some (.int .i64 0) := hB1.cell_of rfl
  have f2 := hB1.free 2
  have b3 : (w1.alloc (.cells #[.int .i64 0, .int .i64 0, .int .i64 0, .int .i64 0, .int .i64 0, .int .i64 0, .int .i64 0] 68)).cell? ⟨w.heap.size, 3, none⟩ = some (.int .i64 0) := hB1.cell_of rfl
  have f3 := hB1.free 3
  have b4 : (w1.alloc (.cells #[.int .i64 0, .int .i64 0, .int .i64 0, .int .i64 0, .int .i64 0, .int .i64 0, .int .i64 0] 68)).cell? ⟨w.heap.size, 4, none⟩ = some (.int .i64 0) := hB1.cell_of rfl
  have f4 := hB1.free 4
  have b5 : (w1.alloc (.cells #[.int .i64 0, .int .i64 0, .int .i64 0, .int .i64 0, .int .i64 0, .int .i64 0, .int .i64 0] 68)).cell? ⟨w.heap.size, 5, none⟩ = some (.int .i64 0) := hB1.cell_of rfl
  have f5 := hB1.free 5
  have b6 : (w1.alloc (.cells #[.int .i64 0, .int .i64 0, .int .i64 0, .int .i64 0, .int .i64 0, .int .i64 0, .int .i64 0] 68)).cell? ⟨w.heap.size, 6, none⟩ = some (.int .i64 0) := hB1.cell_of rfl
  have f6 := hB1.free 6
  have t0_ : (w1.alloc (.cells #[.int .i64 0, .int .i64 0, .int .i64 0, .int .i64 0, .int .i64 0, .int .i64 0, .int .i64 0] 68)).cell? ⟨w.heap.size + 1, 0, none⟩ = some (.int .u64 0) := hT1.cell_of rfl
  have g0 := hT1.free 0
  have t1_ : (w1.alloc (.cells #[.int .i64 0, .int .i64 0, .int .i64 0, .int .i64 0, .int .i64 0, .int .i64 0, .int .i64 0] 68)).cell? ⟨w.heap.size + 1, 1, none⟩ = some (.int .u64 0) := hT1.cell_of rfl
  have g1 := hT1.free 1
  go_wp2_with fail
  obtain ⟨hb3, ht3⟩ := both9 hB1 hT1 (.int .i64 0) (.int .i64 0) (.int .i64 0) (.int .i64 0) (.int .i64 0) (.int .i64 0) (.int .i64 0) (.int .u64 0) (.int .u64 0)
  have hF3 := fr2 (fr7 hF1 (b := w.heap.size) (fun h => by omega) (.int .i64 0) (.int .i64 0) (.int .i64 0) (.int .i64 0) (.int .i64 0) (.int .i64 0) (.int .i64 0)) (b := w.heap.size + 1) (fun h => by omega) (.int .u64 0) (.int .u64 0)
  generalize ((((((((((w1.alloc (.cells #[.int .i64 0, .int .i64 0, .int .i64 0, .int .i64 0, .int .i64 0, .int .i64 0, .int .i64 0] 68)).setCell ⟨w.heap.size, 0, none⟩ (.int .i64 0)).setCell ⟨w.heap.size, 1, none⟩ (.int .i64 0)).setCell ⟨w.heap.size, 2, none⟩ (.int .i64 0)).setCell ⟨w.heap.size, 3, none⟩ (.int .i64 0)).setCell ⟨w.heap.size, 4, none⟩ (.int .i64 0)).setCell ⟨w.heap.size, 5, none⟩ (.int .i64 0)).setCell ⟨w.heap.size, 6, none⟩ (.int .i64 0)).setCell ⟨w.heap.size + 1, 0, none⟩ (.int .u64 0)).setCell ⟨w.heap.size + 1, 1, none⟩ (.int .u64 0)) = wZ at *
  have d0 : wZ.cell? ⟨w.heap.size, 0, none⟩ = some (.int .i64 0) := hb3.cell_of rfl
  have d1 : wZ.cell? ⟨w.heap.size, 1, none⟩ = some (.int .i64 0) := hb3.cell_of rfl
  have d2 : wZ.cell? ⟨w.heap.size, 2, none⟩ = some (.int .i64 0) := hb3.cell_of rfl
  have d3 : wZ.cell? ⟨w.heap.size, 3, none⟩ = some (.int .i64 0) := hb3.cell_of rfl
  have d4 : wZ.cell? ⟨w.heap.size, 4, none⟩ = some (.int .i64 0) := hb3.cell_of rfl
  have d5 : wZ.cell? ⟨w.heap.size, 5, none⟩ = some (.int .i64 0) := hb3.cell_of rfl
  have d6 : wZ.cell? ⟨w.heap.size, 6, none⟩ = some (.int .i64 0) := hb3.cell_of rfl
  have s0 : wZ.cell? ⟨w.heap.size + 1, 0, none⟩ = some (.int .u64 0) := ht3.cell_of rfl
  have s1 : wZ.cell? ⟨w.heap.size + 1, 1, none⟩ = some (.int .u64 0) := ht3.cell_of rfl
  exact bodyPost_ret (v := .tuple #[.agg #[.int .i64 0, .int .i64 0, .int .i64 0, .int .i64 0, .int .i64 0, .int .i64 0, .int .i64 0], .string (bs []), .agg #[.int .u64 0, .int .u64 0], .int .i64 2]) (by simp [results, Try.results60, go_sem, d0, d1, d2, d3, d4, d5, d6, s0, s1]; rfl) rfl ⟨rfl, hF3⟩

set_option maxRecDepth 100000 in
set_option maxHeartbeats 3200000 in
theorem rsplit_ok (l : List UInt8) (m : Ms) (w : World) (hl : l.length = 48) (hn : getM (l.take 32) = some m) :
    Calls Try.prog 60 #[.string (bs l)] w fun e w' => e = .returned (.tuple #[msgv m, .string (bs (l.take 32)), keyv (wordAt (l.drop 32) 0, wordAt (l.drop 32) 8), .int .i64 0]) ∧ Fr none_ w w' := by
  have hG := fun wa => rgetm_any (l.take 32) wa
  have e1 : gv (l.take 32) = m := by unfold gv; rw [hn]; rfl
  have e2 : gc (l.take 32) = 0 := by unfold gc; rw [hn]; rfl
  rw [e1, e2] at hG
  have hsz : (bs l).size = 48 := by rw [bs_size, hl]
  have hext : (bs l).extract 0 32 = bs (l.take 32) := by rw [bs_extract]; rfl
  have e32 : wordAt (l.drop 32) 0 = wordAt l 32 := by rw [wordAt_drop]
  have e40 : wordAt (l.drop 32) 8 = wordAt l 40 := by rw [wordAt_drop]
  have H32 : ∀ wa : World, Calls Try.prog 31 #[.string (bs l), .int .i64 32] wa fun e w' => e = .returned (.tuple #[.int .u64 (u (wordAt (l.drop 32) 0)), .int .i64 0]) ∧ wa = w' := fun wa => by rw [e32]; exact rget_bs l 32 wa (by rw [hl]; decide) (by omega) (by omega)
  have H40 : ∀ wa : World, Calls Try.prog 31 #[.string (bs l), .int .i64 40] wa fun e w' => e = .returned (.tuple #[.int .u64 (u (wordAt (l.drop 32) 8)), .int .i64 0]) ∧ wa = w' := fun wa => by rw [e40]; exact rget_bs l 40 wa (by rw [hl]; decide) (by omega) (by omega)
  clear e32 e40
  generalize wordAt (l.drop 32) 0 = t1 at *
  generalize wordAt (l.drop 32) 8 = t2 at *
  have hB := (Blk.new w #[.int .i64 0, .int .i64 0, .int .i64 0, .int .i64 0, .int .i64 0, .int .i64 0, .int .i64 0] 68).alloc (.cells #[.int .u64 0, .int .u64 0] 52)
  have hT := Blk.new (w.alloc (.cells #[.int .i64 0, .int .i64 0, .int .i64 0, .int .i64 0, .int .i64 0, .int .i64 0, .int .i64 0] 68)) #[.int .u64 0, .int .u64 0] 52
  rw [World.size_alloc] at hT
  have hF := ((Fr.refl none_ w).alloc (.cells #[.int .i64 0, .int .i64 0, .int .i64 0, .int .i64 0, .int .i64 0, .int .i64 0, .int .i64 0] 68)).alloc (.cells #[.int .u64 0, .int .u64 0] 52)
  unfold msgv keyv at *
  go_enter Try.func60, Try.ntmps60
  go_wp2_with fail
  generalize (w.alloc (.cells #[.int .i64 0, .int .i64 0, .int .i64 0, .int .i64 0, .int .i64 0, .int .i64 0, .int .i64 0] 68)).alloc (.cells #[.int .u64 0, .int .u64 0] 52) = w0 at *
  refine (hG _).mono ?_
  rintro e w1 ⟨rfl, hf1⟩
  have hB1 := (hB.kept hf1 (fun f => f)).alloc (.cells #[.int .i64 m.kind, .int .i64 m.who, .int .i64 m.gen, .int .i64 m.seq, .int .i64 m.epoch, .int .i64 m.value, .int .i64 m.metric] 68)
  have hT1 := (hT.kept hf1 (fun f => f)).alloc (.cells #[.int .i64 m.kind, .int .i64 m.who, .int .i64 m.gen, .int .i64 m.seq, .int .i64 m.epoch, .int .i64 m.value, .int .i64 m.metric] 68)
  have hM1 := Blk.new w1 #[.int .i64 m.kind, .int .i64 m.who, .int .i64 m.gen, .int .i64 m.seq, .int .i64 m.epoch, .int .i64 m.value, .int .i64 m.metric] 68
  have hF1 := (hF.trans hf1).alloc (.cells #[.int .i64 m.kind, .int .i64 m.who, .int .i64 m.gen, .int .i64 m.seq, .int .i64 m.epoch, .int .i64 m.value, .int .i64 m.metric] 68)
  clear hB hT hF hf1 hG
  go_wp2_with fail
  generalize w1.alloc (.cells #[.int .i64 m.kind, .int .i64 m.who, .int .i64 m.gen, .int .i64 m.seq, .int .i64 m.epoch, .int .i64 m.value, .int .i64 m.metric] 68) = w2 at *
  refine (H32 _).mono ?_
  rintro e w3 ⟨rfl, rfl⟩
  go_wp2_with fail
  refine (H40 _).mono ?_
  rintro e w3 ⟨rfl, rfl⟩
  obtain ⟨m0, m1, m2, m3, m4, m5, m6⟩ := msgAt_blk (m := m) hM1
  have b0 : w2.cell? ⟨w.heap.size, 0, none⟩ = some (.int .i64 0) := hB1.cell_of rfl
  have f0 := hB1.free 0
  have b1 : w2.cell? ⟨w.heap.size, 1, none⟩ = some (.int .i64 0) := hB1.cell_of rfl
  have f1 := hB1.free 1
  have b2 : w2.cell? ⟨w.heap.size, 2, none⟩ = some (.int .i64 0) := hB1.cell_of rfl
  have f2 := hB1.free 2
  have b3 : w2.cell? ⟨w.heap.size, 3, none⟩ = some (.int .i64 0) := hB1.cell_of rfl
  have f3 := hB1.free 3
  have b4 : w2.cell? ⟨w.heap.size, 4, none⟩ = some (.int .i64 0) := hB1.cell_of rfl
  have f4 := hB1.free 4
  have b5 : w2.cell? ⟨w.heap.size, 5, none⟩ = some (.int .i64 0) := hB1.cell_of rfl
  have f5 := hB1.free 5
  have b6 : w2.cell? ⟨w.heap.size, 6, none⟩ = some (.int .i64 0) := hB1.cell_of rfl
  have f6 := hB1.free 6
  have t0_ : w2.cell? ⟨w.heap.size + 1, 0, none⟩ = some (.int .u64 0) := hT1.cell_of rfl
  have g0 := hT1.free 0
  have t1_ : w2.cell? ⟨w.heap.size + 1, 1, none⟩ = some (.int .u64 0) := hT1.cell_of rfl
  have g1 := hT1.free 1
  go_wp2_with fail
  refine region_tm [6, 8] [0] [0, 0, 2, 0, 0, 24, 1, 71, 255, 511] [1023, 1023, 1021, 1023, 1023, 999, 0, 1019, 0, 1023] [0, 0, 2, 0, 0, 24, 1, 71, 255, 511] 1023 (.quiet 0 (.quiet 1 (.quiet 2 (.quiet 3 (.quiet 4 (.quiet 5 (.alt 6 (.quiet 7 (.alt 8 (.quiet 9 .done) (.fin))) (.fin)))))))) (fun _ => True) (by as_aux_lemma => kernel_rfl) (by as_aux_lemma => kernel_rfl) (by as_aux_lemma => kernel_rfl) (by as_aux_lemma => kernel_rfl) (by as_aux_lemma => kernel_rfl) (by as_aux_lemma => kernel_rfl) (by as_aux_lemma => kernel_rfl) (by as_aux_lemma => kernel_rfl) trivial ?_
  repeat' (first
    | (refine t_float (v := ?_) (a' := ?_) rfl rfl rfl ?_ ?_ ?_
       rotate_left 2
       · (intro w' _; go_simp; with_reducible rfl)
       · (simp only [Act.put, List.setIfInBounds_toArray, List.set_cons_zero, List.set_cons_succ]; rfl))
    | (refine t_bound (v := ?_) (a' := ?_) rfl rfl rfl ?_ ?_ ?_
       rotate_left 2
       · (go_simp; with_reducible rfl)
       · (simp only [Act.put, List.setIfInBounds_toArray, List.set_cons_zero, List.set_cons_succ]; rfl))
    | exact t_fin
    | (refine t_acts rfl rfl (fun K hK => ?_) ?_
       go_simp
       refine hK.out _ _ trivial ?_
       clear hK K))
  all_goals (refine t_done ?_)
  all_goals
    obtain ⟨hb3, ht3⟩ := both9 hB1 hT1 (.int .i64 m.kind) (.int .i64 m.who) (.int .i64 m.gen) (.int .i64 m.seq) (.int .i64 m.epoch) (.int .i64 m.value) (.int .i64 m.metric) (.int .u64 (u t1)) (.int .u64 (u t2))
    have hF3 := fr2 (fr7 hF1 (b := w.heap.size) (fun h => by omega) (.int .i64 m.kind) (.int .i64 m.who) (.int .i64 m.gen) (.int .i64 m.seq) (.int .i64 m.epoch) (.int .i64 m.value) (.int .i64 m.metric)) (b := w.heap.size + 1) (fun h => by omega) (.int .u64 (u t1)) (.int .u64 (u t2))
    replace hb3 := hb3.drew
    replace ht3 := ht3.drew
    replace hF3 := hF3.drew
    generalize (((((((((w2.setCell ⟨w.heap.size, 0, none⟩ (.int .i64 m.kind)).setCell ⟨w.heap.size, 1, none⟩ (.int .i64 m.who)).setCell ⟨w.heap.size, 2, none⟩ (.int .i64 m.gen)).setCell ⟨w.heap.size, 3, none⟩ (.int .i64 m.seq)).setCell ⟨w.heap.size, 4, none⟩ (.int .i64 m.epoch)).setCell ⟨w.heap.size, 5, none⟩ (.int .i64 m.value)).setCell ⟨w.heap.size, 6, none⟩ (.int .i64 m.metric)).setCell ⟨w.heap.size + 1, 0, none⟩ (.int .u64 (u t1))).setCell ⟨w.heap.size + 1, 1, none⟩ (.int .u64 (u t2))).drew = wZ at *
    have d0 : wZ.cell? ⟨w.heap.size, 0, none⟩ = some (.int .i64 m.kind) := hb3.cell_of rfl
    have d1 : wZ.cell? ⟨w.heap.size, 1, none⟩ = some (.int .i64 m.who) := hb3.cell_of rfl
    have d2 : wZ.cell? ⟨w.heap.size, 2, none⟩ = some (.int .i64 m.gen) := hb3.cell_of rfl
    have d3 : wZ.cell? ⟨w.heap.size, 3, none⟩ = some (.int .i64 m.seq) := hb3.cell_of rfl
    have d4 : wZ.cell? ⟨w.heap.size, 4, none⟩ = some (.int .i64 m.epoch) := hb3.cell_of rfl
    have d5 : wZ.cell? ⟨w.heap.size, 5, none⟩ = some (.int .i64 m.value) := hb3.cell_of rfl
    have d6 : wZ.cell? ⟨w.heap.size, 6, none⟩ = some (.int .i64 m.metric) := hb3.cell_of rfl
    have s0 : wZ.cell? ⟨w.heap.size + 1, 0, none⟩ = some (.int .u64 (u t1)) := ht3.cell_of rfl
    have s1 : wZ.cell? ⟨w.heap.size + 1, 1, none⟩ = some (.int .u64 (u t2)) := ht3.cell_of rfl
    go_wp2_with fail
    exact bodyPost_ret (v := .tuple #[.agg #[.int .i64 m.kind, .int .i64 m.who, .int .i64 m.gen, .int .i64 m.seq, .int .i64 m.epoch, .int .i64 m.value, .int .i64 m.metric], .string (bs (l.take 32)), .agg #[.int .u64 (u t1), .int .u64 (u t2)], .int .i64 0]) (by simp [results, Try.results60, go_sem, d0, d1, d2, d3, d4, d5, d6, s0, s1]) rfl ⟨rfl, hF3⟩
end Go.Proofs.Ytandenkoejbloaa
