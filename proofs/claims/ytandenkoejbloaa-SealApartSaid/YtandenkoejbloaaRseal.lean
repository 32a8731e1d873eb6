/- Walks of the document's sealer: NewSealer, next, Sample, Beat, Rotate. -/
import Derived.Test.YtandenkoejbloaaSealP
import Derived.Test.YtandenkoejbloaaRws
import Derived.Test.YtandenkoejbloaaRder
import Derived.Test.YtandenkoejbloaaRegM
namespace Go.Proofs.Ytandenkoejbloaa
open Go Go.RowKit
theorem rseal_all (k : W × W) (m : Ms) (w : World) : Calls Try.prog 56 #[keyv k, msgv m] w fun e w' => e = .returned (.tuple #[.string (bs (slB k m)), .int .i64 (slC m)]) ∧ Fr none_ w w' := by
  unfold slB slC
  cases h : mayM m
  · exact rseal_bad k m w h
  · exact rseal_ok k m w h
/-- The document's collector. -/
def RlAt (w : World) (b : Nat) (seed : W) (who : Int) (st : St) : Prop :=
  0 ≤ who ∧ who ≤ 15 ∧ okS st ∧ Blk w b 120 [.int .u64 (u seed), .int .i64 who, .int .i64 st.1, .int .i64 st.2]
def oneR (b : Nat) : Nat → Prop := fun k => k = b
theorem RlAt.kept {S : Nat → Prop} {w w' : World} {b : Nat} {seed : W} {who : Int} {st : St} (h : RlAt w b seed who st) (hf : Fr S w w') (h1 : ¬ S b) : RlAt w' b seed who st :=
  ⟨h.1, h.2.1, h.2.2.1, h.2.2.2.kept hf h1⟩
theorem RlAt.lt {w : World} {b : Nat} {seed : W} {who : Int} {st : St} (h : RlAt w b seed who st) : b < w.heap.size := h.2.2.2.lt
theorem RlAt.head {w : World} {b : Nat} {seed : W} {who : Int} {st : St} (h : RlAt w b seed who st) : w.cell? ⟨b, 0, none⟩ = some (.int .u64 (u seed)) ∧ w.cell? ⟨b, 1, none⟩ = some (.int .i64 who) ∧ w.cell? ⟨b, 2, none⟩ = some (.int .i64 st.1) ∧ w.cell? ⟨b, 3, none⟩ = some (.int .i64 st.2) :=
  ⟨h.2.2.2.cell_of rfl, h.2.2.2.cell_of rfl, h.2.2.2.cell_of rfl, h.2.2.2.cell_of rfl⟩

set_option maxHeartbeats 800000 in
theorem fsnew_bad (seed : W) (who : Int) (w : World) (h : who < 0 ∨ 16 ≤ who) : Calls Try.prog 75 #[.int .u64 (u seed), .int .i64 who] w fun e w' => e = .returned (.pointer none) ∧ w = w' := by
  go_enter Try.func75, Try.ntmps75
  go_wp2
  all_goals first
    | (exfalso; omega)
    | exact bodyPost_ret (v := .pointer none) (by simp [results, Try.results75, go_sem]) rfl ⟨rfl, rfl⟩
set_option maxHeartbeats 800000 in
theorem fsnew_ok (seed : W) (who : Int) (w : World) (h : 0 ≤ who) (h' : who ≤ 15) : Calls Try.prog 75 #[.int .u64 (u seed), .int .i64 who] w fun e w' =>
    ∃ b, e = .returned (.pointer (some ⟨b, 0, none⟩)) ∧ w.heap.size ≤ b ∧ RlAt w' b seed who (0, 0) ∧ Fr none_ w w' := by
  go_enter Try.func75, Try.ntmps75
  go_wp2
  all_goals first
    | (exfalso; omega)
    | exact bodyPost_ret (v := .pointer (some ⟨w.heap.size, 0, none⟩)) (by simp [results, Try.results75, go_sem]) rfl ⟨_, rfl, Nat.le_refl _, ⟨h, h', by unfold okS; decide, Blk.new w _ _⟩, (Fr.refl none_ w).alloc _⟩
section
variable {b : Nat} {seed : W} {who : Int} {st : St} {w : World}
set_option maxRecDepth 100000 in
set_option maxHeartbeats 3200000 in
theorem fnext_any (h : RlAt w b seed who st) (m : Ms) : Calls Try.prog 100 #[.pointer (some ⟨b, 0, none⟩), msgv m] w fun e w' =>
    e = .returned (.tuple #[.string (bs (slB (ofW seed who st.1) { m with who := who, seq := st.2 + 1 })), .int .i64 (slC { m with who := who, seq := st.2 + 1 })]) ∧
      RlAt w' b seed who (upS { m with who := who, seq := st.2 + 1 } st) ∧ Fr (oneR b) w w' := by
  have hok := h.2.2.1
  unfold okS at hok
  have hB := Blk.new w #[.int .i64 m.kind, .int .i64 m.who, .int .i64 m.gen, .int .i64 m.seq, .int .i64 m.epoch, .int .i64 m.value, .int .i64 m.metric] 68
  have hF := (Fr.refl none_ w).alloc (.cells #[.int .i64 m.kind, .int .i64 m.who, .int .i64 m.gen, .int .i64 m.seq, .int .i64 m.epoch, .int .i64 m.value, .int .i64 m.metric] 68)
  have h0 := h.kept hF (fun f => f)
  have hbl := h.lt
  have hu : upS { m with who := who, seq := st.2 + 1 } st = if slC { m with who := who, seq := st.2 + 1 } = 0 then (st.1, st.2 + 1) else st := by
    unfold upS slC
    cases mayM { m with who := who, seq := st.2 + 1 } <;> rfl
  have hc : slC { m with who := who, seq := st.2 + 1 } = 0 ∨ slC { m with who := who, seq := st.2 + 1 } = 1 := by
    unfold slC
    cases mayM { m with who := who, seq := st.2 + 1 } <;> simp
  have hso := okS_up (m := { m with who := who, seq := st.2 + 1 }) h.2.2.1 rfl
  have HS : ∀ wa, Calls Try.prog 56 #[keyv (ofW seed who st.1), .agg #[.int .i64 m.kind, .int .i64 who, .int .i64 m.gen, .int .i64 (st.2 + 1), .int .i64 m.epoch, .int .i64 m.value, .int .i64 m.metric]] wa fun e w' => e = .returned (.tuple #[.string (bs (slB (ofW seed who st.1) { m with who := who, seq := st.2 + 1 })), .int .i64 (slC { m with who := who, seq := st.2 + 1 })]) ∧ Fr none_ wa w' := fun wa => rseal_all (ofW seed who st.1) { m with who := who, seq := st.2 + 1 } wa
  have HO : ∀ wa, Calls Try.prog 50 #[.int .u64 (u seed), .int .i64 who, .int .i64 st.1] wa fun e w' => e = .returned (keyv (ofW seed who st.1)) ∧ Fr none_ wa w' := fun wa => rof_any seed who st.1 wa
  rw [hu]
  rw [hu] at hso
  clear hu
  generalize slC { m with who := who, seq := st.2 + 1 } = code at *
  generalize slB (ofW seed who st.1) { m with who := who, seq := st.2 + 1 } = sb at *
  generalize ofW seed who st.1 = kk at *
  obtain ⟨gen, seq⟩ := st
  dsimp only at *
  have hw1 : IntKind.i64.wrap (seq + 1) = seq + 1 := IntWalk.i64_in _ (by omega)
  unfold msgv keyv at *
  go_enter Try.func100, Try.ntmps100
  go_wp2_with fail
  generalize hBq : w.heap.size = B at *
  generalize w.alloc (.cells #[.int .i64 m.kind, .int .i64 m.who, .int .i64 m.gen, .int .i64 m.seq, .int .i64 m.epoch, .int .i64 m.value, .int .i64 m.metric] 68) = w0 at *
  obtain ⟨k0, k1, k2, k3⟩ := h0.head
  dsimp only at k2 k3
  have c1 : w0.cell? ⟨B, 1, none⟩ = some (.int .i64 m.who) := hB.cell_of rfl
  have c3 : w0.cell? ⟨B, 3, none⟩ = some (.int .i64 m.seq) := hB.cell_of rfl
  have f1 := hB.free 1
  have f3 := hB.free 3
  have hne : B ≠ b := by omega
  have HU := Lib.hid (show w0.drew.cell? ⟨b, 3, none⟩ = some (.int .i64 seq) from k3)
  have HU0 := Lib.hid k3
  have KS1 := Lib.hid (show (w0.setCell ⟨B, 1, none⟩ (.int .i64 who)).drew.cell? ⟨b, 3, none⟩ = some (.int .i64 seq) from (cell_set_other w0 hne 1 3 _).trans k3)
  have KS2 := Lib.hid (show ((w0.setCell ⟨B, 1, none⟩ (.int .i64 who)).setCell ⟨B, 3, none⟩ (.int .i64 (seq + 1))).drew.cell? ⟨b, 3, none⟩ = some (.int .i64 seq) from (cell_set_other _ hne 3 3 _).trans ((cell_set_other w0 hne 1 3 _).trans k3))
  refine region_pi [10, 12] [3] [0, 1, 2, 3, 4, 5, 6, 7, 8, 9, 10, 11, 12] (fun w' => w'.cell? ⟨b, 3, none⟩ = some (.int .i64 seq)) (by as_aux_lemma => kernel_rfl) (by as_aux_lemma => kernel_rfl) (by as_aux_lemma => kernel_rfl) (by as_aux_lemma => kernel_rfl) (by as_aux_lemma => kernel_rfl) (by first | with_reducible exact HU.out | with_reducible exact KS1.out | with_reducible exact KS2.out | with_reducible exact HU0.out) ?_
  repeat (first
    | (refine pi_float (v := ?_) (a' := ?_) rfl rfl rfl rfl ?_ ?_ ?_
       rotate_left 2
       · (intro w' hU; (try dsimp only at hU); go_simp; with_reducible rfl)
       · (simp only [Act.put, List.setIfInBounds_toArray, List.set_cons_zero, List.set_cons_succ]; rfl))
    | (refine pi_bound (v := ?_) (a' := ?_) rfl rfl rfl rfl ?_ ?_ ?_
       rotate_left 2
       · (go_simp; with_reducible rfl)
       · (simp only [Act.put, List.setIfInBounds_toArray, List.set_cons_zero, List.set_cons_succ]; rfl))
    | (refine pi_acts rfl rfl rfl (fun K hK => ?_)
       go_simp
       refine hK.out _ _ (by first | with_reducible exact HU.out | with_reducible exact KS1.out | with_reducible exact KS2.out | with_reducible exact HU0.out) ?_
       clear hK K))
  refine pi_done ?_
  have hF1 : Fr none_ w ((w0.setCell ⟨B, 1, none⟩ (.int .i64 who)).setCell ⟨B, 3, none⟩ (.int .i64 (seq + 1))).drew := ((hF.setCell (p := ⟨B, 1, none⟩) (fun hx => by exfalso; dsimp only at hx; omega) _).setCell (p := ⟨B, 3, none⟩) (fun hx => by exfalso; dsimp only at hx; omega) _).drew
  have hB1 := ((hB.setCell 1 (.int .i64 who)).setCell 3 (.int .i64 (seq + 1))).drew
  have h1 : RlAt ((w0.setCell ⟨B, 1, none⟩ (.int .i64 who)).setCell ⟨B, 3, none⟩ (.int .i64 (seq + 1))).drew b seed who (gen, seq) :=
    ⟨h0.1, h0.2.1, h0.2.2.1, ((h0.2.2.2.setCell_other (p := ⟨B, 1, none⟩) hne _).setCell_other (p := ⟨B, 3, none⟩) hne _).drew⟩
  clear hB hF h0 HU HU0 KS1 KS2 k0 k1 k2 k3 c1 c3 f1 f3
  generalize ((w0.setCell ⟨B, 1, none⟩ (.int .i64 who)).setCell ⟨B, 3, none⟩ (.int .i64 (seq + 1))).drew = w1 at *
  obtain ⟨k0, k1, k2, k3⟩ := h1.head
  dsimp only at k2 k3
  have HK : ∀ w', Fr none_ w1 w' → w'.cell? ⟨B, 0, none⟩ = some (.int .i64 m.kind) ∧ w'.cell? ⟨B, 1, none⟩ = some (.int .i64 who) ∧ w'.cell? ⟨B, 2, none⟩ = some (.int .i64 m.gen) ∧ w'.cell? ⟨B, 3, none⟩ = some (.int .i64 (seq + 1)) ∧ w'.cell? ⟨B, 4, none⟩ = some (.int .i64 m.epoch) ∧ w'.cell? ⟨B, 5, none⟩ = some (.int .i64 m.value) ∧ w'.cell? ⟨B, 6, none⟩ = some (.int .i64 m.metric) := fun w' hf => Blk.c7 (e := 68) hB1 hf
  obtain ⟨p0, p1, p2, p3, p4, p5, p6⟩ := HK w1 (Fr.refl _ _)
  go_wp2_with fail
  have hg0 : Fr none_ w1 w1.drew := (Fr.refl _ _).drew
  refine region_pi [12, 14] [3, 7, 11] [0, 1, 2, 3, 4, 5, 6, 7, 8, 9, 10, 11, 13, 12, 14, 15, 16, 17, 18, 19] (fun w' => w'.cell? ⟨B, 0, none⟩ = some (.int .i64 m.kind) ∧ w'.cell? ⟨B, 1, none⟩ = some (.int .i64 who) ∧ w'.cell? ⟨B, 2, none⟩ = some (.int .i64 m.gen) ∧ w'.cell? ⟨B, 3, none⟩ = some (.int .i64 (seq + 1)) ∧ w'.cell? ⟨B, 4, none⟩ = some (.int .i64 m.epoch) ∧ w'.cell? ⟨B, 5, none⟩ = some (.int .i64 m.value) ∧ w'.cell? ⟨B, 6, none⟩ = some (.int .i64 m.metric)) (by as_aux_lemma => kernel_rfl) (by as_aux_lemma => kernel_rfl) (by as_aux_lemma => kernel_rfl) (by as_aux_lemma => kernel_rfl) (by as_aux_lemma => kernel_rfl) (by first | exact HK _ hg2 | exact HK _ hg1 | exact HK _ hg0) ?_
  repeat (first
    | (refine pi_float (v := ?_) (a' := ?_) rfl rfl rfl rfl ?_ ?_ ?_
       rotate_left 2
       · (intro w' hU; (try dsimp only at hU); go_simp; with_reducible rfl)
       · (simp only [Act.put, List.setIfInBounds_toArray, List.set_cons_zero, List.set_cons_succ]; rfl))
    | (refine pi_bound (v := ?_) (a' := ?_) rfl rfl rfl rfl ?_ ?_ ?_
       rotate_left 2
       · (go_simp; with_reducible rfl)
       · (simp only [Act.put, List.setIfInBounds_toArray, List.set_cons_zero, List.set_cons_succ]; rfl))
    | (refine pi_acts rfl rfl rfl (fun K hK => ?_)
       go_simp; try (go_wp2_with (first | (go_at_call 56; refine (HS _).mono ?_; rintro e w3 ⟨rfl, hf3⟩; have hg2 := hg1.trans hf3) | (go_at_call 50; refine (HO _).mono ?_; rintro e w2 ⟨rfl, hf2⟩; have hg1 := hg0.trans hf2)))
       refine hK.out _ _ (by first | exact HK _ hg2 | exact HK _ hg1 | exact HK _ hg0) ?_
       clear hK K))
  refine pi_done ?_
  have h3 := h1.kept hg2 (fun f => f)
  have hF3 := hF1.trans hg2
  obtain ⟨r0, r1, r2, r3⟩ := h3.head
  dsimp only at r3
  have fr3 := h3.2.2.2.free 3
  clear h1 hB1 HK k0 k1 k2 k3 p0 p1 p2 p3 p4 p5 p6 HS HO
  rcases hc with rfl | rfl
  · go_wp2
    exact bodyPost_ret (v := .tuple #[.string (bs sb), .int .i64 0]) (by simp [results, Try.results100, go_sem]) rfl ⟨rfl, ⟨h3.1, h3.2.1, hso, h3.2.2.2.setCell 3 _⟩, Fr.setCell (S := oneR b) (p := ⟨b, 3, none⟩) (hF3.mono (fun _ _ f => f.elim)) (fun _ => rfl) _⟩
  · go_wp2
    exact bodyPost_ret (v := .tuple #[.string (bs sb), .int .i64 1]) (by simp [results, Try.results100, go_sem]) rfl ⟨rfl, h3, hF3.mono (fun _ _ f => f.elim)⟩
set_option maxHeartbeats 1600000 in
theorem fsample_any (h : RlAt w b seed who st) (metric epoch value : Int) : Calls Try.prog 78 #[.pointer (some ⟨b, 0, none⟩), .int .i64 metric, .int .i64 epoch, .int .i64 value] w fun e w' =>
    e = .returned (.tuple #[.string (bs (slB (ofW seed who st.1) (nxM who st 1 st.1 epoch value metric))), .int .i64 (slC (nxM who st 1 st.1 epoch value metric))]) ∧ RlAt w' b seed who (upS (nxM who st 1 st.1 epoch value metric) st) ∧ Fr (oneR b) w w' := by
  have HS : Calls Try.prog 100 #[.pointer (some ⟨b, 0, none⟩), .agg #[.int .i64 1, .int .i64 0, .int .i64 st.1, .int .i64 0, .int .i64 epoch, .int .i64 value, .int .i64 metric]] w fun e w' =>
    e = .returned (.tuple #[.string (bs (slB (ofW seed who st.1) (nxM who st 1 st.1 epoch value metric))), .int .i64 (slC (nxM who st 1 st.1 epoch value metric))]) ∧ RlAt w' b seed who (upS (nxM who st 1 st.1 epoch value metric) st) ∧ Fr (oneR b) w w' := fnext_any h ⟨1, 0, st.1, 0, epoch, value, metric⟩
  obtain ⟨k0, k1, k2, k3⟩ := h.head
  generalize slC (nxM who st 1 st.1 epoch value metric) = code at *
  generalize slB (ofW seed who st.1) (nxM who st 1 st.1 epoch value metric) = sb at *
  generalize upS (nxM who st 1 st.1 epoch value metric) st = st' at *
  go_enter Try.func78, Try.ntmps78
  go_wp2_with fail
  refine HS.mono ?_
  rintro e w1 ⟨rfl, hs, hf⟩
  go_wp2
  exact bodyPost_ret (v := .tuple #[.string (bs sb), .int .i64 code]) (by simp [results, Try.results78, go_sem]) rfl ⟨rfl, hs, hf⟩
set_option maxHeartbeats 1600000 in
theorem fbeat_any (h : RlAt w b seed who st) (epoch : Int) : Calls Try.prog 80 #[.pointer (some ⟨b, 0, none⟩), .int .i64 epoch] w fun e w' =>
    e = .returned (.tuple #[.string (bs (slB (ofW seed who st.1) (nxM who st 3 st.1 epoch 0 0))), .int .i64 (slC (nxM who st 3 st.1 epoch 0 0))]) ∧ RlAt w' b seed who (upS (nxM who st 3 st.1 epoch 0 0) st) ∧ Fr (oneR b) w w' := by
  have HS : Calls Try.prog 100 #[.pointer (some ⟨b, 0, none⟩), .agg #[.int .i64 3, .int .i64 0, .int .i64 st.1, .int .i64 0, .int .i64 epoch, .int .i64 0, .int .i64 0]] w fun e w' =>
    e = .returned (.tuple #[.string (bs (slB (ofW seed who st.1) (nxM who st 3 st.1 epoch 0 0))), .int .i64 (slC (nxM who st 3 st.1 epoch 0 0))]) ∧ RlAt w' b seed who (upS (nxM who st 3 st.1 epoch 0 0) st) ∧ Fr (oneR b) w w' := fnext_any h ⟨3, 0, st.1, 0, epoch, 0, 0⟩
  obtain ⟨k0, k1, k2, k3⟩ := h.head
  generalize slC (nxM who st 3 st.1 epoch 0 0) = code at *
  generalize slB (ofW seed who st.1) (nxM who st 3 st.1 epoch 0 0) = sb at *
  generalize upS (nxM who st 3 st.1 epoch 0 0) st = st' at *
  go_enter Try.func80, Try.ntmps80
  go_wp2_with fail
  refine HS.mono ?_
  rintro e w1 ⟨rfl, hs, hf⟩
  go_wp2
  exact bodyPost_ret (v := .tuple #[.string (bs sb), .int .i64 code]) (by simp [results, Try.results80, go_sem]) rfl ⟨rfl, hs, hf⟩
set_option maxHeartbeats 1600000 in
theorem frotate_any (h : RlAt w b seed who st) (epoch : Int) : Calls Try.prog 82 #[.pointer (some ⟨b, 0, none⟩), .int .i64 epoch] w fun e w' =>
    e = .returned (.tuple #[.string (bs (slB (ofW seed who st.1) (nxM who st 2 (st.1 + 1) epoch 0 0))), .int .i64 (slC (nxM who st 2 (st.1 + 1) epoch 0 0))]) ∧ RlAt w' b seed who (roS (nxM who st 2 (st.1 + 1) epoch 0 0) st) ∧ Fr (oneR b) w w' := by
  have HS : Calls Try.prog 100 #[.pointer (some ⟨b, 0, none⟩), .agg #[.int .i64 2, .int .i64 0, .int .i64 (st.1 + 1), .int .i64 0, .int .i64 epoch, .int .i64 0, .int .i64 0]] w fun e w' =>
    e = .returned (.tuple #[.string (bs (slB (ofW seed who st.1) (nxM who st 2 (st.1 + 1) epoch 0 0))), .int .i64 (slC (nxM who st 2 (st.1 + 1) epoch 0 0))]) ∧ RlAt w' b seed who (upS (nxM who st 2 (st.1 + 1) epoch 0 0) st) ∧ Fr (oneR b) w w' := fnext_any h ⟨2, 0, st.1 + 1, 0, epoch, 0, 0⟩
  obtain ⟨k0, k1, k2, k3⟩ := h.head
  have hok := h.2.2.1
  have hro := okS_ro (m := nxM who st 2 (st.1 + 1) epoch 0 0) h.2.2.1 rfl
  unfold okS at hok
  obtain ⟨gen, seq⟩ := st
  dsimp only at *
  have hw1 : IntKind.i64.wrap (gen + 1) = gen + 1 := IntWalk.i64_in _ (by omega)
  generalize slB (ofW seed who gen) (nxM who (gen, seq) 2 (gen + 1) epoch 0 0) = sb at *
  cases hm : mayM (nxM who (gen, seq) 2 (gen + 1) epoch 0 0)
  · have e1 : slC (nxM who (gen, seq) 2 (gen + 1) epoch 0 0) = 1 := by unfold slC; rw [hm]; rfl
    have e2 : upS (nxM who (gen, seq) 2 (gen + 1) epoch 0 0) (gen, seq) = (gen, seq) := by unfold upS; rw [hm]; rfl
    have e3 : roS (nxM who (gen, seq) 2 (gen + 1) epoch 0 0) (gen, seq) = (gen, seq) := by unfold roS; rw [hm]; rfl
    rw [e1, e2] at HS
    rw [e1, e3]
    clear hm e1 e2 e3 hro
    go_enter Try.func82, Try.ntmps82
    go_wp2_with fail
    refine HS.mono ?_
    rintro e w1 ⟨rfl, hs, hf⟩
    go_wp2
    exact bodyPost_ret (v := .tuple #[.string (bs sb), .int .i64 1]) (by simp [results, Try.results82, go_sem]) rfl ⟨rfl, hs, hf⟩
  · have e1 : slC (nxM who (gen, seq) 2 (gen + 1) epoch 0 0) = 0 := by unfold slC; rw [hm]; rfl
    have e2 : upS (nxM who (gen, seq) 2 (gen + 1) epoch 0 0) (gen, seq) = (gen, seq + 1) := by unfold upS; rw [hm]; rfl
    have e3 : roS (nxM who (gen, seq) 2 (gen + 1) epoch 0 0) (gen, seq) = (gen + 1, 0) := by unfold roS; rw [hm]; rfl
    rw [e1, e2] at HS
    rw [e3] at hro
    rw [e1, e3]
    clear hm e1 e2 e3
    go_enter Try.func82, Try.ntmps82
    go_wp2_with fail
    refine HS.mono ?_
    rintro e w1 ⟨rfl, hs, hf⟩
    clear k0 k1 k2 k3
    obtain ⟨k0, k1, k2, k3⟩ := hs.head
    dsimp only at k2 k3
    have f2 := hs.2.2.2.free 2
    have f3 := hs.2.2.2.free 3
    go_wp2
    exact bodyPost_ret (v := .tuple #[.string (bs sb), .int .i64 0]) (by simp [results, Try.results82, go_sem]) rfl ⟨rfl, ⟨hs.1, hs.2.1, hro, (hs.2.2.2.setCell 2 _).setCell 3 _⟩, Fr.setCell (S := oneR b) (p := ⟨b, 3, none⟩) (Fr.setCell (S := oneR b) (p := ⟨b, 2, none⟩) hf (fun _ => rfl) _) (fun _ => rfl) _⟩
end
end Go.Proofs.Ytandenkoejbloaa
