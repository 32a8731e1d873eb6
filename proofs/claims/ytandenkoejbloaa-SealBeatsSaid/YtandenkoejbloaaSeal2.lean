/- Walks of a collector's Sample, Beat, Rotate. -/
import Derived.Test.YtandenkoejbloaaSeal1
namespace Go.Proofs.Ytandenkoejbloaa
open Go Go.RowKit
set_option maxHeartbeats 800000 in
theorem sbeat_nil (epoch : Int) (w : World) : Calls Try.prog 79 #[.pointer none, .int .i64 epoch] w fun e w' => e = .returned (.tuple #[.slice none 0 0, .int .i64 1]) ∧ Fr none_ w w' := by
  have HS : Calls Try.prog 99 #[.pointer none, .agg #[.int .i64 3, .int .i64 0, .int .i64 0, .int .i64 0, .int .i64 epoch, .int .i64 0, .int .i64 0]] w fun e w' => e = .returned (.tuple #[.slice none 0 0, .int .i64 1]) ∧ Fr none_ w w' := sseal_nil ⟨3, 0, 0, 0, epoch, 0, 0⟩ w
  go_enter Try.func79, Try.ntmps79
  go_wp2_with fail
  refine (sgen_nil w).mono ?_
  rintro e w1 ⟨rfl, rfl⟩
  go_wp2_with fail
  refine HS.mono ?_
  rintro e w1 ⟨rfl, hf⟩
  go_wp2
  exact bodyPost_ret (v := .tuple #[.slice none 0 0, .int .i64 1]) (by simp [results, Try.results79, go_sem]) rfl ⟨rfl, hf⟩
section
variable {b : Nat} {seed : W} {who : Int} {st : St} {w : World}
set_option maxHeartbeats 1600000 in
theorem ssample_any (h : SlAt w b seed who st) (metric epoch value : Int) : Calls Try.prog 77 #[.pointer (some ⟨b, 0, none⟩), .int .i64 metric, .int .i64 epoch, .int .i64 value] w fun e w' =>
    ∃ v, e = .returned (.tuple #[v, .int .i64 (slC (nxM who st 1 st.1 epoch value metric))]) ∧ Own w' w.heap.size 5 v ((slB (ofW seed who st.1) (nxM who st 1 st.1 epoch value metric)).map bv) ∧
      SlAt w' b seed who (upS (nxM who st 1 st.1 epoch value metric) st) ∧ Fr (one_ b) w w' := by
  have HS : Calls Try.prog 99 #[.pointer (some ⟨b, 0, none⟩), .agg #[.int .i64 1, .int .i64 0, .int .i64 st.1, .int .i64 0, .int .i64 epoch, .int .i64 value, .int .i64 metric]] w fun e w' =>
    ∃ v, e = .returned (.tuple #[v, .int .i64 (slC (nxM who st 1 st.1 epoch value metric))]) ∧ Own w' w.heap.size 5 v ((slB (ofW seed who st.1) (nxM who st 1 st.1 epoch value metric)).map bv) ∧
      SlAt w' b seed who (upS (nxM who st 1 st.1 epoch value metric) st) ∧ Fr (one_ b) w w' := sseal_any h ⟨1, 0, st.1, 0, epoch, value, metric⟩
  have HG := sgen_any h
  have hok := h.2.2.1
  unfold okS at hok
  have hmx : max st.1 0 = st.1 := by omega
  generalize slC (nxM who st 1 st.1 epoch value metric) = code at *
  generalize slB (ofW seed who st.1) (nxM who st 1 st.1 epoch value metric) = sb at *
  generalize upS (nxM who st 1 st.1 epoch value metric) st = st' at *
  go_enter Try.func77, Try.ntmps77
  go_wp2_with fail
  refine HG.mono ?_
  rintro e w1 ⟨rfl, rfl⟩
  go_wp2_with fail
  refine HS.mono ?_
  rintro e w1 ⟨v, rfl, ho, hs, hf⟩
  go_wp2
  exact bodyPost_ret (v := .tuple #[v, .int .i64 code]) (by simp [results, Try.results77, go_sem]) rfl ⟨v, rfl, ho, hs, hf⟩
set_option maxHeartbeats 1600000 in
theorem sbeat_any (h : SlAt w b seed who st) (epoch : Int) : Calls Try.prog 79 #[.pointer (some ⟨b, 0, none⟩), .int .i64 epoch] w fun e w' =>
    ∃ v, e = .returned (.tuple #[v, .int .i64 (slC (nxM who st 3 st.1 epoch 0 0))]) ∧ Own w' w.heap.size 5 v ((slB (ofW seed who st.1) (nxM who st 3 st.1 epoch 0 0)).map bv) ∧
      SlAt w' b seed who (upS (nxM who st 3 st.1 epoch 0 0) st) ∧ Fr (one_ b) w w' := by
  have HS : Calls Try.prog 99 #[.pointer (some ⟨b, 0, none⟩), .agg #[.int .i64 3, .int .i64 0, .int .i64 st.1, .int .i64 0, .int .i64 epoch, .int .i64 0, .int .i64 0]] w fun e w' =>
    ∃ v, e = .returned (.tuple #[v, .int .i64 (slC (nxM who st 3 st.1 epoch 0 0))]) ∧ Own w' w.heap.size 5 v ((slB (ofW seed who st.1) (nxM who st 3 st.1 epoch 0 0)).map bv) ∧
      SlAt w' b seed who (upS (nxM who st 3 st.1 epoch 0 0) st) ∧ Fr (one_ b) w w' := sseal_any h ⟨3, 0, st.1, 0, epoch, 0, 0⟩
  have HG := sgen_any h
  have hok := h.2.2.1
  unfold okS at hok
  have hmx : max st.1 0 = st.1 := by omega
  generalize slC (nxM who st 3 st.1 epoch 0 0) = code at *
  generalize slB (ofW seed who st.1) (nxM who st 3 st.1 epoch 0 0) = sb at *
  generalize upS (nxM who st 3 st.1 epoch 0 0) st = st' at *
  go_enter Try.func79, Try.ntmps79
  go_wp2_with fail
  refine HG.mono ?_
  rintro e w1 ⟨rfl, rfl⟩
  go_wp2_with fail
  refine HS.mono ?_
  rintro e w1 ⟨v, rfl, ho, hs, hf⟩
  go_wp2
  exact bodyPost_ret (v := .tuple #[v, .int .i64 code]) (by simp [results, Try.results79, go_sem]) rfl ⟨v, rfl, ho, hs, hf⟩
set_option maxHeartbeats 1600000 in
theorem srotate_any (h : SlAt w b seed who st) (epoch : Int) : Calls Try.prog 81 #[.pointer (some ⟨b, 0, none⟩), .int .i64 epoch] w fun e w' =>
    ∃ v, e = .returned (.tuple #[v, .int .i64 (slC (nxM who st 2 (st.1 + 1) epoch 0 0))]) ∧ Own w' w.heap.size 5 v ((slB (ofW seed who st.1) (nxM who st 2 (st.1 + 1) epoch 0 0)).map bv) ∧
      SlAt w' b seed who (roS (nxM who st 2 (st.1 + 1) epoch 0 0) st) ∧ Fr (one_ b) w w' := by
  have HS : Calls Try.prog 99 #[.pointer (some ⟨b, 0, none⟩), .agg #[.int .i64 2, .int .i64 0, .int .i64 (st.1 + 1), .int .i64 0, .int .i64 epoch, .int .i64 0, .int .i64 0]] w fun e w' =>
    ∃ v, e = .returned (.tuple #[v, .int .i64 (slC (nxM who st 2 (st.1 + 1) epoch 0 0))]) ∧ Own w' w.heap.size 5 v ((slB (ofW seed who st.1) (nxM who st 2 (st.1 + 1) epoch 0 0)).map bv) ∧
      SlAt w' b seed who (upS (nxM who st 2 (st.1 + 1) epoch 0 0) st) ∧ Fr (one_ b) w w' := sseal_any h ⟨2, 0, st.1 + 1, 0, epoch, 0, 0⟩
  have HG := sgen_any h
  have hok := h.2.2.1
  have hro := okS_ro (m := nxM who st 2 (st.1 + 1) epoch 0 0) h.2.2.1 rfl
  have hlt := h.lt
  unfold okS at hok
  obtain ⟨gen, seq⟩ := st
  dsimp only at *
  have hw1 : IntKind.i64.wrap (gen + 1) = gen + 1 := IntWalk.i64_in _ (by omega)
  generalize slB (ofW seed who gen) (nxM who (gen, seq) 2 (gen + 1) epoch 0 0) = sb at *
  cases hm : mayM (nxM who (gen, seq) 2 (gen + 1) epoch 0 0)
  · have e1 : slC (nxM who (gen, seq) 2 (gen + 1) epoch 0 0) = 1 := by unfold slC; rw [hm]; rfl
    have e2 : upS (nxM who (gen, seq) 2 (gen + 1) epoch 0 0) (gen, seq) = (gen, seq) := by unfold upS; rw [hm]; rfl
    have e3 : roS (nxM who (gen, seq) 2 (gen + 1) epoch 0 0) (gen, seq) = (gen, seq) := by unfold roS; rw [hm]; rfl
    rw [e1, e2] at HS
    rw [e1, e3]
    clear hm e1 e2 e3 hro
    go_enter Try.func81, Try.ntmps81
    go_wp2_with fail
    refine HG.mono ?_
    rintro e w1 ⟨rfl, rfl⟩
    go_wp2_with fail
    refine HS.mono ?_
    rintro e w1 ⟨v, rfl, ho, hs, hf⟩
    go_wp2
    exact bodyPost_ret (v := .tuple #[v, .int .i64 1]) (by simp [results, Try.results81, go_sem]) rfl ⟨v, rfl, ho, hs, hf⟩
  · have e1 : slC (nxM who (gen, seq) 2 (gen + 1) epoch 0 0) = 0 := by unfold slC; rw [hm]; rfl
    have e2 : upS (nxM who (gen, seq) 2 (gen + 1) epoch 0 0) (gen, seq) = (gen, seq + 1) := by unfold upS; rw [hm]; rfl
    have e3 : roS (nxM who (gen, seq) 2 (gen + 1) epoch 0 0) (gen, seq) = (gen + 1, 0) := by unfold roS; rw [hm]; rfl
    rw [e1, e2] at HS
    rw [e3] at hro
    rw [e1, e3]
    clear hm e1 e2 e3
    go_enter Try.func81, Try.ntmps81
    go_wp2_with fail
    refine HG.mono ?_
    rintro e w1 ⟨rfl, rfl⟩
    go_wp2_with fail
    refine HS.mono ?_
    rintro e w1 ⟨v, rfl, ho, hs, hf⟩
    obtain ⟨k0, k1, k2, k3⟩ := hs.head
    dsimp only at k2 k3
    have f2 := hs.2.2.2.free 2
    have hb1 := hs.2.2.2.setCell 2 (.int .i64 (gen + 1))
    have HA := astore_any b 3 (seq + 1) 0 (w1.setCell ⟨b, 2, none⟩ (.int .i64 (gen + 1))) (hb1.cell_of rfl) (hb1.free 3)
    go_wp2_with fail
    refine HA.mono ?_
    rintro e w2 ⟨rfl, hw2⟩
    subst hw2
    have hv : v.ownBlock ≠ some b := fun hx => by have := (ho.blk _ hx).1; omega
    go_wp2
    exact bodyPost_ret (v := .tuple #[v, .int .i64 0]) (by simp [results, Try.results81, go_sem]) rfl ⟨v, rfl, (ho.setCell (p := ⟨b, 2, none⟩) hv _).setCell (p := ⟨b, 3, none⟩) hv _, ⟨hs.1, hs.2.1, hro, hb1.setCell 3 _⟩, Fr.setCell (S := one_ b) (p := ⟨b, 3, none⟩) (Fr.setCell (S := one_ b) (p := ⟨b, 2, none⟩) hf (fun _ => rfl) _) (fun _ => rfl) _⟩
end
end Go.Proofs.Ytandenkoejbloaa
