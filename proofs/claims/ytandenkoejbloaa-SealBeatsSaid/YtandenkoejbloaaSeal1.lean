/- Walks of seal.New, (*Sealer).Gen, Seq, seal. -/
import Derived.Test.YtandenkoejbloaaRing0
import Derived.Test.YtandenkoejbloaaSealP
import Derived.Test.YtandenkoejbloaaRoot
import Derived.Test.YtandenkoejbloaaRegM
namespace Go.Proofs.Ytandenkoejbloaa
open Go Go.RowKit

/-- A collector. -/
def SlAt (w : World) (b : Nat) (seed : W) (who : Int) (st : St) : Prop :=
  0 ≤ who ∧ who ≤ 15 ∧ okS st ∧ Blk w b 155 [.int .u64 (u seed), .int .i64 who, .int .i64 st.1, .int .i64 st.2]
theorem SlAt.kept {S : Nat → Prop} {w w' : World} {b : Nat} {seed : W} {who : Int} {st : St} (h : SlAt w b seed who st) (hf : Fr S w w') (h1 : ¬ S b) : SlAt w' b seed who st :=
  ⟨h.1, h.2.1, h.2.2.1, h.2.2.2.kept hf h1⟩
theorem SlAt.lt {w : World} {b : Nat} {seed : W} {who : Int} {st : St} (h : SlAt w b seed who st) : b < w.heap.size := h.2.2.2.lt
theorem SlAt.head {w : World} {b : Nat} {seed : W} {who : Int} {st : St} (h : SlAt w b seed who st) : w.cell? ⟨b, 0, none⟩ = some (.int .u64 (u seed)) ∧ w.cell? ⟨b, 1, none⟩ = some (.int .i64 who) ∧ w.cell? ⟨b, 2, none⟩ = some (.int .i64 st.1) ∧ w.cell? ⟨b, 3, none⟩ = some (.int .i64 st.2) :=
  ⟨h.2.2.2.cell_of rfl, h.2.2.2.cell_of rfl, h.2.2.2.cell_of rfl, h.2.2.2.cell_of rfl⟩
/-- One block alone. -/
def one_ (b : Nat) : Nat → Prop := fun k => k = b
theorem none_of_one {b B : Nat} (h : B ≤ b) : ∀ i, i < B → one_ b i → none_ i := by
  intro i hi ht
  unfold one_ at ht; omega
theorem wrap64_in {n : Int} (h : -9223372036854775808 ≤ n) (h' : n ≤ 9223372036854775807) : wrap64 n = n := by
  unfold wrap64; omega

set_option maxHeartbeats 800000 in
theorem snew_bad (seed : W) (who : Int) (w : World) (h : who < 0 ∨ 16 ≤ who) : Calls Try.prog 74 #[.int .u64 (u seed), .int .i64 who] w fun e w' => e = .returned (.pointer none) ∧ w = w' := by
  go_enter Try.func74, Try.ntmps74
  go_wp2
  all_goals first
    | (exfalso; omega)
    | exact bodyPost_ret (v := .pointer none) (by simp [results, Try.results74, go_sem]) rfl ⟨rfl, rfl⟩
set_option maxHeartbeats 800000 in
theorem snew_ok (seed : W) (who : Int) (w : World) (h : 0 ≤ who) (h' : who ≤ 15) : Calls Try.prog 74 #[.int .u64 (u seed), .int .i64 who] w fun e w' =>
    ∃ b, e = .returned (.pointer (some ⟨b, 0, none⟩)) ∧ w.heap.size ≤ b ∧ SlAt w' b seed who (0, 0) ∧ Fr none_ w w' := by
  go_enter Try.func74, Try.ntmps74
  go_wp2
  all_goals first
    | (exfalso; omega)
    | exact bodyPost_ret (v := .pointer (some ⟨w.heap.size, 0, none⟩)) (by simp [results, Try.results74, go_sem]) rfl ⟨_, rfl, Nat.le_refl _, ⟨h, h', by unfold okS; decide, Blk.new w _ _⟩, (Fr.refl none_ w).alloc _⟩
theorem sgen_nil (w : World) : Calls Try.prog 83 #[.pointer none] w fun e w' => e = .returned (.int .i64 (-1)) ∧ w = w' := by
  go_enter Try.func83, Try.ntmps83
  go_wp2
  go_ret
  exact ⟨rfl, rfl⟩
theorem sseq_nil (w : World) : Calls Try.prog 84 #[.pointer none] w fun e w' => e = .returned (.int .i64 (-1)) ∧ w = w' := by
  go_enter Try.func84, Try.ntmps84
  go_wp2
  go_ret
  exact ⟨rfl, rfl⟩
set_option maxHeartbeats 800000 in
theorem sseal_nil (m : Ms) (w : World) : Calls Try.prog 99 #[.pointer none, msgv m] w fun e w' => e = .returned (.tuple #[.slice none 0 0, .int .i64 1]) ∧ Fr none_ w w' := by
  have hF := (Fr.refl none_ w).alloc (.cells #[.int .i64 m.kind, .int .i64 m.who, .int .i64 m.gen, .int .i64 m.seq, .int .i64 m.epoch, .int .i64 m.value, .int .i64 m.metric] 68)
  unfold msgv
  go_enter Try.func99, Try.ntmps99
  go_wp2
  exact bodyPost_ret (v := .tuple #[.slice none 0 0, .int .i64 1]) (by simp [results, Try.results99, go_sem]) rfl ⟨rfl, hF⟩
section
variable {b : Nat} {seed : W} {who : Int} {st : St} {w : World}
theorem sgen_any (h : SlAt w b seed who st) : Calls Try.prog 83 #[.pointer (some ⟨b, 0, none⟩)] w fun e w' => e = .returned (.int .i64 st.1) ∧ w = w' := by
  obtain ⟨k0, k1, k2, k3⟩ := h.head
  go_enter Try.func83, Try.ntmps83
  go_wp2
  go_ret
  exact ⟨rfl, rfl⟩
theorem sseq_any (h : SlAt w b seed who st) : Calls Try.prog 84 #[.pointer (some ⟨b, 0, none⟩)] w fun e w' => e = .returned (.int .i64 st.2) ∧ w = w' := by
  obtain ⟨k0, k1, k2, k3⟩ := h.head
  go_enter Try.func84, Try.ntmps84
  go_wp2_with fail
  refine (aload_any b 3 st.2 w k3).mono ?_
  rintro e w1 ⟨rfl, rfl⟩
  go_wp2
  go_ret
  exact ⟨rfl, rfl⟩
set_option maxRecDepth 100000 in
set_option maxHeartbeats 3200000 in
theorem sseal_any (h : SlAt w b seed who st) (m : Ms) : Calls Try.prog 99 #[.pointer (some ⟨b, 0, none⟩), msgv m] w fun e w' =>
    ∃ v, e = .returned (.tuple #[v, .int .i64 (slC { m with who := who, seq := st.2 + 1 })]) ∧ Own w' w.heap.size 5 v ((slB (ofW seed who st.1) { m with who := who, seq := st.2 + 1 }).map bv) ∧
      SlAt w' b seed who (upS { m with who := who, seq := st.2 + 1 } st) ∧ Fr (one_ b) w w' := by
  have hok := h.2.2.1
  unfold okS at hok
  have hB := Blk.new w #[.int .i64 m.kind, .int .i64 m.who, .int .i64 m.gen, .int .i64 m.seq, .int .i64 m.epoch, .int .i64 m.value, .int .i64 m.metric] 68
  have hF := (Fr.refl none_ w).alloc (.cells #[.int .i64 m.kind, .int .i64 m.who, .int .i64 m.gen, .int .i64 m.seq, .int .i64 m.epoch, .int .i64 m.value, .int .i64 m.metric] 68)
  have h0 := h.kept hF (fun f => f)
  have hbl := h.lt
  have hu : upS { m with who := who, seq := st.2 + 1 } st = if slC { m with who := who, seq := st.2 + 1 } = 0 then (st.1, st.2 + 1) else st := by
    unfold upS slC
    cases mayM { m with who := who, seq := st.2 + 1 } <;> rfl
  have hc : slC { m with who := who, seq := st.2 + 1 } = 0 ∨ slC { m with who := who, seq := st.2 + 1 } = 1 := by
    unfold slC
    cases mayM { m with who := who, seq := st.2 + 1 } <;> simp
  have hso := okS_up (m := { m with who := who, seq := st.2 + 1 }) h.2.2.1 rfl
  have HS : ∀ wa, Calls Try.prog 55 #[keyv (ofW seed who st.1), .agg #[.int .i64 m.kind, .int .i64 who, .int .i64 m.gen, .int .i64 (st.2 + 1), .int .i64 m.epoch, .int .i64 m.value, .int .i64 m.metric]] wa fun e w' => ∃ v, e = .returned (.tuple #[v, .int .i64 (slC { m with who := who, seq := st.2 + 1 })]) ∧ Own w' wa.heap.size 5 v ((slB (ofW seed who st.1) { m with who := who, seq := st.2 + 1 }).map bv) ∧ Fr none_ wa w' := fun wa => seal_all (ofW seed who st.1) { m with who := who, seq := st.2 + 1 } wa
  have HO : ∀ wa, Calls Try.prog 49 #[.int .u64 (u seed), .int .i64 who, .int .i64 st.1] wa fun e w' => e = .returned (keyv (ofW seed who st.1)) ∧ Fr none_ wa w' := fun wa => of_any seed who st.1 wa
  rw [hu]
  rw [hu] at hso
  clear hu
  generalize slC { m with who := who, seq := st.2 + 1 } = code at *
  generalize slB (ofW seed who st.1) { m with who := who, seq := st.2 + 1 } = sb at *
  generalize ofW seed who st.1 = kk at *
  obtain ⟨gen, seq⟩ := st
  dsimp only at *
  have hw1 : IntKind.i64.wrap (seq + 1) = seq + 1 := IntWalk.i64_in _ (by omega)
  have hw2 : wrap64 (seq + 1) = seq + 1 := wrap64_in (by omega) (by omega)
  unfold msgv keyv at *
  go_enter Try.func99, Try.ntmps99
  go_wp2_with fail
  generalize hBq : w.heap.size = B at *
  generalize w.alloc (.cells #[.int .i64 m.kind, .int .i64 m.who, .int .i64 m.gen, .int .i64 m.seq, .int .i64 m.epoch, .int .i64 m.value, .int .i64 m.metric] 68) = w0 at *
  obtain ⟨k0, k1, k2, k3⟩ := h0.head
  have c1 : w0.cell? ⟨B, 1, none⟩ = some (.int .i64 m.who) := hB.cell_of rfl
  have c3 : w0.cell? ⟨B, 3, none⟩ = some (.int .i64 m.seq) := hB.cell_of rfl
  have f1 := hB.free 1
  have f3 := hB.free 3
  have hne : B ≠ b := by omega
  have HU := Lib.hid (show w0.drew.cell? ⟨b, 1, none⟩ = some (.int .i64 who) from k1)
  have KS1 := Lib.hid (show (w0.setCell ⟨B, 1, none⟩ (.int .i64 who)).drew.cell? ⟨b, 1, none⟩ = some (.int .i64 who) from (cell_set_other w0 hne 1 1 _).trans k1)
  have KS2 := Lib.hid (show ((w0.setCell ⟨B, 1, none⟩ (.int .i64 who)).setCell ⟨B, 3, none⟩ (.int .i64 (seq + 1))).drew.cell? ⟨b, 1, none⟩ = some (.int .i64 who) from (cell_set_other _ hne 3 1 _).trans ((cell_set_other w0 hne 1 1 _).trans k1))
  have HA := aload_any b 3 seq w0.drew k3
  refine region_pi [7, 10, 12] [] [0, 1, 2, 3, 4, 5, 6, 9, 7, 8, 10, 11, 12] (fun w' => w'.cell? ⟨b, 1, none⟩ = some (.int .i64 who)) (by as_aux_lemma => kernel_rfl) (by as_aux_lemma => kernel_rfl) (by as_aux_lemma => kernel_rfl) (by as_aux_lemma => kernel_rfl) (by as_aux_lemma => kernel_rfl) (by first | with_reducible exact HU.out | with_reducible exact KS1.out | with_reducible exact KS2.out) ?_
  repeat (first
    | (refine pi_float (v := ?_) (a' := ?_) rfl rfl rfl rfl ?_ ?_ ?_
       rotate_left 2
       · (intro w' hU; (try dsimp only at hU); go_simp; with_reducible rfl)
       · (simp only [Act.put, List.setIfInBounds_toArray, List.set_cons_zero, List.set_cons_succ]; rfl))
    | (refine pi_bound (v := ?_) (a' := ?_) rfl rfl rfl rfl ?_ ?_ ?_
       rotate_left 2
       · (go_simp; with_reducible rfl)
       · (simp only [Act.put, List.setIfInBounds_toArray, List.set_cons_zero, List.set_cons_succ]; rfl))
    | (refine pi_acts rfl rfl rfl (fun K hK => ?_)
       go_simp; try (go_wp2_with (((go_at_call 102; refine HA.mono ?_; rintro e w1 ⟨rfl, rfl⟩))))
       refine hK.out _ _ (by first | with_reducible exact HU.out | with_reducible exact KS1.out | with_reducible exact KS2.out) ?_
       clear hK K))
  refine pi_done ?_
  have hF1 : Fr none_ w ((w0.setCell ⟨B, 1, none⟩ (.int .i64 who)).setCell ⟨B, 3, none⟩ (.int .i64 (seq + 1))).drew := ((hF.setCell (p := ⟨B, 1, none⟩) (fun hx => by exfalso; dsimp only at hx; omega) _).setCell (p := ⟨B, 3, none⟩) (fun hx => by exfalso; dsimp only at hx; omega) _).drew
  have hB1 := ((hB.setCell 1 (.int .i64 who)).setCell 3 (.int .i64 (seq + 1))).drew
  have h1 : SlAt ((w0.setCell ⟨B, 1, none⟩ (.int .i64 who)).setCell ⟨B, 3, none⟩ (.int .i64 (seq + 1))).drew b seed who (gen, seq) :=
    ⟨h0.1, h0.2.1, h0.2.2.1, ((h0.2.2.2.setCell_other (p := ⟨B, 1, none⟩) hne _).setCell_other (p := ⟨B, 3, none⟩) hne _).drew⟩
  clear hB hF h0 HU KS1 KS2 HA k0 k1 k2 k3 c1 c3 f1 f3
  generalize ((w0.setCell ⟨B, 1, none⟩ (.int .i64 who)).setCell ⟨B, 3, none⟩ (.int .i64 (seq + 1))).drew = w1 at *
  obtain ⟨k0, k1, k2, k3⟩ := h1.head
  dsimp only at k2 k3
  have HK : ∀ w', Fr none_ w1 w' → w'.cell? ⟨B, 0, none⟩ = some (.int .i64 m.kind) ∧ w'.cell? ⟨B, 1, none⟩ = some (.int .i64 who) ∧ w'.cell? ⟨B, 2, none⟩ = some (.int .i64 m.gen) ∧ w'.cell? ⟨B, 3, none⟩ = some (.int .i64 (seq + 1)) ∧ w'.cell? ⟨B, 4, none⟩ = some (.int .i64 m.epoch) ∧ w'.cell? ⟨B, 5, none⟩ = some (.int .i64 m.value) ∧ w'.cell? ⟨B, 6, none⟩ = some (.int .i64 m.metric) := fun w' hf => Blk.c7 (e := 68) hB1 hf
  obtain ⟨p0, p1, p2, p3, p4, p5, p6⟩ := HK w1 (Fr.refl _ _)
  go_wp2_with fail
  have hg0 : Fr none_ w1 w1.drew := (Fr.refl _ _).drew
  refine region_pi [12, 14] [3, 7, 11] [0, 1, 2, 3, 4, 5, 6, 7, 8, 9, 10, 11, 13, 12, 14, 15, 16, 17, 18, 19] (fun w' => w'.cell? ⟨B, 0, none⟩ = some (.int .i64 m.kind) ∧ w'.cell? ⟨B, 1, none⟩ = some (.int .i64 who) ∧ w'.cell? ⟨B, 2, none⟩ = some (.int .i64 m.gen) ∧ w'.cell? ⟨B, 3, none⟩ = some (.int .i64 (seq + 1)) ∧ w'.cell? ⟨B, 4, none⟩ = some (.int .i64 m.epoch) ∧ w'.cell? ⟨B, 5, none⟩ = some (.int .i64 m.value) ∧ w'.cell? ⟨B, 6, none⟩ = some (.int .i64 m.metric)) (by as_aux_lemma => kernel_rfl) (by as_aux_lemma => kernel_rfl) (by as_aux_lemma => kernel_rfl) (by as_aux_lemma => kernel_rfl) (by as_aux_lemma => kernel_rfl) (by first | exact HK _ hg2 | exact HK _ hg1 | exact HK _ hg0) ?_
  repeat (first
    | (refine pi_float (v := ?_) (a' := ?_) rfl rfl rfl rfl ?_ ?_ ?_
       rotate_left 2
       · (intro w' hU; (try dsimp only at hU); go_simp; with_reducible rfl)
       · (simp only [Act.put, List.setIfInBounds_toArray, List.set_cons_zero, List.set_cons_succ]; rfl))
    | (refine pi_bound (v := ?_) (a' := ?_) rfl rfl rfl rfl ?_ ?_ ?_
       rotate_left 2
       · (go_simp; with_reducible rfl)
       · (simp only [Act.put, List.setIfInBounds_toArray, List.set_cons_zero, List.set_cons_succ]; rfl))
    | (refine pi_acts rfl rfl rfl (fun K hK => ?_)
       go_simp; try (go_wp2_with (first | (go_at_call 55; refine (HS _).mono ?_; rintro e w3 ⟨v3, rfl, ho3, hf3⟩; have hg2 := hg1.trans hf3) | (go_at_call 49; refine (HO _).mono ?_; rintro e w2 ⟨rfl, hf2⟩; have hg1 := hg0.trans hf2)))
       refine hK.out _ _ (by first | exact HK _ hg2 | exact HK _ hg1 | exact HK _ hg0) ?_
       clear hK K))
  refine pi_done ?_
  have h3 := h1.kept hg2 (fun f => f)
  have hF3 := hF1.trans hg2
  have hbase : w.heap.size ≤ _ := Nat.le_trans hF1.size hg1.size
  obtain ⟨r0, r1, r2, r3⟩ := h3.head
  dsimp only at r3
  clear h1 hB1 HK k0 k1 k2 k3 p0 p1 p2 p3 p4 p5 p6 HS HO
  rcases hc with rfl | rfl
  · have HA := aadd_any b 3 seq 1 _ r3 (h3.2.2.2.free 3)
    rw [hw2] at HA
    go_wp2_with fail
    refine HA.mono ?_
    rintro e w4 ⟨rfl, hw4⟩
    subst hw4
    go_wp2
    exact bodyPost_ret (v := .tuple #[v3, .int .i64 0]) (by simp [results, Try.results99, go_sem]) rfl ⟨v3, rfl, (ho3.setCell (p := ⟨b, 3, none⟩) (fun hx => by have := (ho3.blk _ hx).1; dsimp only at this; omega) _).mono (by omega), ⟨h3.1, h3.2.1, hso, h3.2.2.2.setCell 3 _⟩, Fr.setCell (S := one_ b) (p := ⟨b, 3, none⟩) (hF3.mono (fun _ _ f => f.elim)) (fun _ => rfl) _⟩
  · go_wp2
    exact bodyPost_ret (v := .tuple #[v3, .int .i64 1]) (by simp [results, Try.results99, go_sem]) rfl ⟨v3, rfl, ho3.mono (by omega), h3, hF3.mono (fun _ _ f => f.elim)⟩
end
end Go.Proofs.Ytandenkoejbloaa
