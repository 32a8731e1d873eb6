/- Walk of wire.Split. -/
import Derived.Test.YtandenkoejbloaaWget
import Derived.Test.YtandenkoejbloaaTold2
namespace Go.Proofs.Ytandenkoejbloaa
open Go Go.RowKit

theorem wget_any (v : Value) (l : List UInt8) (w : World) (h : Rd w v (l.map bv)) :
    Calls Try.prog 57 #[v] w fun e w' => e = .returned (.tuple #[msgv (gv l), .int .i64 (gc l)]) ∧ Fr none_ w w' := by
  by_cases hl : l.length = 32
  · exact wget_32 v l w h hl
  · exact wget_short v l w h hl
theorem fr2 {S : Nat → Prop} {a w : World} (h : Fr S a w) {b : Nat} (hb : b < a.heap.size → S b) (x0 x1 : Value) : Fr S a ((w.setCell ⟨b, 0, none⟩ x0).setCell ⟨b, 1, none⟩ x1) := (h.setCell hb x0).setCell hb x1
theorem Rd.cut {w : World} {b o n cap : Nat} {vs : List Value} (h : Rd w (.slice (some ⟨b, o, none⟩) n cap) vs) (k : Nat) (hk : k ≤ vs.length) : Rd w (.slice (some ⟨b, o + k, none⟩) (n - k) (cap - k)) (vs.drop k) := by
  obtain ⟨ao', cap', e1, h1, h2, h3⟩ := h
  simp only [Value.slice.injEq] at e1
  obtain ⟨rfl, rfl, rfl⟩ := e1
  refine ⟨_, _, by rw [List.length_drop], by rw [List.length_drop]; omega, by omega, fun j x hj => ?_⟩
  rw [List.getElem?_drop] at hj
  obtain ⟨b', o', e2, h4, h5⟩ := h3 (k + j) x hj
  cases e2
  exact ⟨b, o + k, rfl, h4, by rw [Nat.add_assoc]; exact h5⟩
theorem cell_set_other (w : World) {b c : Nat} (h : b ≠ c) (i j : Nat) (x : Value) : (w.setCell ⟨b, i, none⟩ x).cell? ⟨c, j, none⟩ = w.cell? ⟨c, j, none⟩ :=
  ((Fr.refl (fun k => k = b) w).setCell (p := ⟨b, i, none⟩) (fun _ => rfl) x).block c |> fun hb => World.cell?_of_block (by
    rcases Nat.lt_or_ge c w.heap.size with hc | hc
    · exact hb hc (fun e => h e.symm)
    · have hsz : (w.setCell ⟨b, i, none⟩ x).heap.size = w.heap.size := by simp [World.setCell]
      rw [Array.getElem?_eq_none (by rw [hsz]; exact hc), Array.getElem?_eq_none hc])
theorem mt_kept {S : Nat → Prop} {w w' : World} {b c : Nat} {m : Ms} {x y : Value} (hf : Fr S w w') (hb : b < w.heap.size) (hc : c < w.heap.size) (hSb : ¬ S b) (hSc : ¬ S c) (h : MsgAt w b m ∧ w.cell? ⟨c, 0, none⟩ = some x ∧ w.cell? ⟨c, 1, none⟩ = some y) :
    MsgAt w' b m ∧ w'.cell? ⟨c, 0, none⟩ = some x ∧ w'.cell? ⟨c, 1, none⟩ = some y :=
  ⟨msgAt_kept hf hb hSb h.1, (hf.cell hc hSc).trans h.2.1, (hf.cell hc hSc).trans h.2.2⟩

theorem both9 {w : World} {b : Nat} {e e' : TypeId} {a0 a1 a2 a3 a4 a5 a6 c0 c1 : Value} (h : Blk w b e [a0, a1, a2, a3, a4, a5, a6]) (ht : Blk w (b + 1) e' [c0, c1]) (x0 x1 x2 x3 x4 x5 x6 y0 y1 : Value) :
    Blk (((((((((w.setCell ⟨b, 0, none⟩ x0).setCell ⟨b, 1, none⟩ x1).setCell ⟨b, 2, none⟩ x2).setCell ⟨b, 3, none⟩ x3).setCell ⟨b, 4, none⟩ x4).setCell ⟨b, 5, none⟩ x5).setCell ⟨b, 6, none⟩ x6).setCell ⟨b + 1, 0, none⟩ y0).setCell ⟨b + 1, 1, none⟩ y1) b e [x0, x1, x2, x3, x4, x5, x6] ∧ Blk (((((((((w.setCell ⟨b, 0, none⟩ x0).setCell ⟨b, 1, none⟩ x1).setCell ⟨b, 2, none⟩ x2).setCell ⟨b, 3, none⟩ x3).setCell ⟨b, 4, none⟩ x4).setCell ⟨b, 5, none⟩ x5).setCell ⟨b, 6, none⟩ x6).setCell ⟨b + 1, 0, none⟩ y0).setCell ⟨b + 1, 1, none⟩ y1) (b + 1) e' [y0, y1] :=
  have hne : ∀ i, (⟨b, i, none⟩ : Addr).block ≠ b + 1 := fun i => by show b ≠ b + 1; omega
  have hne' : ∀ i, (⟨b + 1, i, none⟩ : Addr).block ≠ b := fun i => by show b + 1 ≠ b; omega
  ⟨((blk7 h x0 x1 x2 x3 x4 x5 x6).setCell_other (hne' 0) y0).setCell_other (hne' 1) y1,
    ((((((((ht.setCell_other (hne 0) x0).setCell_other (hne 1) x1).setCell_other (hne 2) x2).setCell_other (hne 3) x3).setCell_other (hne 4) x4).setCell_other (hne 5) x5).setCell_other (hne 6) x6).setCell 0 y0).setCell 1 y1⟩

set_option maxRecDepth 100000 in
set_option maxHeartbeats 12800000 in
theorem split_short (v : Value) (l : List UInt8) (w : World) (h : Rd w v (l.map bv)) (hl : l.length ≠ 48) :
    Calls Try.prog 59 #[v] w fun e w' => e = .returned (.tuple #[msgv zeroM, .slice none 0 0, keyv (0, 0), .int .i64 2]) ∧ Fr none_ w w' := by
  obtain ⟨ao, cap, rfl, hc1, hm1, _⟩ := h
  simp only [List.length_map] at *
  have hF := ((Fr.refl none_ w).alloc (.cells #[.int .i64 0, .int .i64 0, .int .i64 0, .int .i64 0, .int .i64 0, .int .i64 0, .int .i64 0] 68)).alloc (.cells #[.int .u64 0, .int .u64 0] 52)
  have hne : decide ((l.length : Int) = 48) = false := by simp; omega
  go_enter Try.func59, Try.ntmps59
  go_wp2_with fail
  exact bodyPost_ret (v := .tuple #[.agg #[.int .i64 0, .int .i64 0, .int .i64 0, .int .i64 0, .int .i64 0, .int .i64 0, .int .i64 0], .slice none 0 0, .agg #[.int .u64 0, .int .u64 0], .int .i64 2]) (by simp [results, Try.results59, go_sem]) rfl ⟨rfl, hF⟩

set_option maxRecDepth 100000 in
set_option maxHeartbeats 12800000 in
theorem split_none (v : Value) (l : List UInt8) (w : World) (h : Rd w v (l.map bv)) (hl : l.length = 48) (hn : getM (l.take 32) = none) :
    Calls Try.prog 59 #[v] w fun e w' => e = .returned (.tuple #[msgv zeroM, .slice none 0 0, keyv (0, 0), .int .i64 2]) ∧ Fr none_ w w' := by
  have hG := fun wa va => wget_any va (l.take 32) wa
  have e1 : gv (l.take 32) = zeroM := by unfold gv; rw [hn]; rfl
  have e2 : gc (l.take 32) = 2 := by unfold gc; rw [hn]; rfl
  rw [e1, e2] at hG
  have HR := Lib.hid h
  obtain ⟨ao, cap, rfl, hc1, hm1, _⟩ := h
  rw [List.length_map, hl] at HR hc1
  rw [List.length_map, hl]
  unfold maxLen at hm1
  have hB := (Blk.new w #[.int .i64 0, .int .i64 0, .int .i64 0, .int .i64 0, .int .i64 0, .int .i64 0, .int .i64 0] 68).alloc (.cells #[.int .u64 0, .int .u64 0] 52)
  have hT := Blk.new (w.alloc (.cells #[.int .i64 0, .int .i64 0, .int .i64 0, .int .i64 0, .int .i64 0, .int .i64 0, .int .i64 0] 68)) #[.int .u64 0, .int .u64 0] 52
  rw [World.size_alloc] at hT
  have hF := ((Fr.refl none_ w).alloc (.cells #[.int .i64 0, .int .i64 0, .int .i64 0, .int .i64 0, .int .i64 0, .int .i64 0, .int .i64 0] 68)).alloc (.cells #[.int .u64 0, .int .u64 0] 52)
  have hr := HR.out.kept hF (fun _ _ _ _ f => f)
  have hr32 := hr.take 32 (by rw [List.length_map, hl]; omega)
  rw [← List.map_take] at hr32
  have hle : (32 : Int) ≤ (cap : Int) := by omega
  go_enter Try.func59, Try.ntmps59
  go_wp2_with fail
  generalize (w.alloc (.cells #[.int .i64 0, .int .i64 0, .int .i64 0, .int .i64 0, .int .i64 0, .int .i64 0, .int .i64 0] 68)).alloc (.cells #[.int .u64 0, .int .u64 0] 52) = w0 at *
  refine (hG _ _ hr32).mono ?_
  unfold msgv zeroM
  rintro e w1 ⟨rfl, hf1⟩
  have hB1 := (hB.kept hf1 (fun f => f)).alloc (.cells #[.int .i64 0, .int .i64 0, .int .i64 0, .int .i64 0, .int .i64 0, .int .i64 0, .int .i64 0] 68)
  have hT1 := (hT.kept hf1 (fun f => f)).alloc (.cells #[.int .i64 0, .int .i64 0, .int .i64 0, .int .i64 0, .int .i64 0, .int .i64 0, .int .i64 0] 68)
  have hF1 := (hF.trans hf1).alloc (.cells #[.int .i64 0, .int .i64 0, .int .i64 0, .int .i64 0, .int .i64 0, .int .i64 0, .int .i64 0] 68)
  clear hB hT hF hf1 hr hr32 hG HR
  have b0 : (w1.alloc (.cells #[.int .i64 0, .int .i64 0, .int .i64 0, .int .i64 0, .int .i64 0, .int .i64 0, .int .i64 0] 68)).cell? ⟨w.heap.size, 0, none⟩ = some (.int .i64 0) := hB1.cell_of rfl
  have b1 : (w1.alloc (.cells #[.int .i64 0, .int .i64 0, .int .i64 0, .int .i64 0, .int .i64 0, .int .i64 0, .int .i64 0] 68)).cell? ⟨w.heap.size, 1, none⟩ = some (.int .i64 0) := hB1.cell_of rfl
  have b2 : (w1.alloc (.cells #[.int .i64 0, .int .i64 0, .int .i64 0, .int .i64 0, .int .i64 0, .int .i64 0, .int .i64 0] 68)).cell? ⟨w.heap.size, 2, none⟩ = some (.int .i64 0) := hB1.cell_of rfl
  have b3 : (w1.alloc (.cells #[.int .i64 0, .int .i64 0, .int .i64 0, .int .i64 0, .int .i64 0, .int .i64 0, .int .i64 0] 68)).cell? ⟨w.heap.size, 3, none⟩ = some (.int .i64 0) := hB1.cell_of rfl
  have b4 : (w1.alloc (.cells #[.int .i64 0, .int .i64 0, .int .i64 0, .int .i64 0, .int .i64 0, .int .i64 0, .int .i64 0] 68)).cell? ⟨w.heap.size, 4, none⟩ = some (.int .i64 0) := hB1.cell_of rfl
  have b5 : (w1.alloc (.cells #[.int .i64 0, .int .i64 0, .int .i64 0, .int .i64 0, .int .i64 0, .int .i64 0, .int .i64 0] 68)).cell? ⟨w.heap.size, 5, none⟩ = some (.int .i64 0) := hB1.cell_of rfl
  have b6 : (w1.alloc (.cells #[.int .i64 0, .int .i64 0, .int .i64 0, .int .i64 0, .int .i64 0, .int .i64 0, .int .i64 0] 68)).cell? ⟨w.heap.size, 6, none⟩ = some (.int .i64 0) := hB1.cell_of rfl
  have f0 := hB1.free 0
  have f1 := hB1.free 1
  have f2 := hB1.free 2
  have f3 := hB1.free 3
  have f4 := hB1.free 4
  have f5 := hB1.free 5
  have f6 := hB1.free 6
  have t0 : (w1.alloc (.cells #[.int .i64 0, .int .i64 0, .int .i64 0, .int .i64 0, .int .i64 0, .int .i64 0, .int .i64 0] 68)).cell? ⟨w.heap.size + 1, 0, none⟩ = some (.int .u64 0) := hT1.cell_of rfl
  have t1 : (w1.alloc (.cells #[.int .i64 0, .int .i64 0, .int .i64 0, .int .i64 0, .int .i64 0, .int .i64 0, .int .i64 0] 68)).cell? ⟨w.heap.size + 1, 1, none⟩ = some (.int .u64 0) := hT1.cell_of rfl
  have g0 := hT1.free 0
  have g1 := hT1.free 1
  go_wp2_with fail
  obtain ⟨hb3, ht3⟩ := both9 hB1 hT1 (.int .i64 0) (.int .i64 0) (.int .i64 0) (.int .i64 0) (.int .i64 0) (.int .i64 0) (.int .i64 0) (.int .u64 0) (.int .u64 0)
  have hF3 := fr2 (fr7 hF1 (b := w.heap.size) (fun h => by omega) (.int .i64 0) (.int .i64 0) (.int .i64 0) (.int .i64 0) (.int .i64 0) (.int .i64 0) (.int .i64 0)) (b := w.heap.size + 1) (fun h => by omega) (.int .u64 0) (.int .u64 0)
  generalize ((((((((((w1.alloc (.cells #[.int .i64 0, .int .i64 0, .int .i64 0, .int .i64 0, .int .i64 0, .int .i64 0, .int .i64 0] 68)).setCell ⟨w.heap.size, 0, none⟩ (.int .i64 0)).setCell ⟨w.heap.size, 1, none⟩ (.int .i64 0)).setCell ⟨w.heap.size, 2, none⟩ (.int .i64 0)).setCell ⟨w.heap.size, 3, none⟩ (.int .i64 0)).setCell ⟨w.heap.size, 4, none⟩ (.int .i64 0)).setCell ⟨w.heap.size, 5, none⟩ (.int .i64 0)).setCell ⟨w.heap.size, 6, none⟩ (.int .i64 0)).setCell ⟨w.heap.size + 1, 0, none⟩ (.int .u64 0)).setCell ⟨w.heap.size + 1, 1, none⟩ (.int .u64 0)) = wZ at *
  have d0 : wZ.cell? ⟨w.heap.size, 0, none⟩ = some (.int .i64 0) := hb3.cell_of rfl
  have d1 : wZ.cell? ⟨w.heap.size, 1, none⟩ = some (.int .i64 0) := hb3.cell_of rfl
  have d2 : wZ.cell? ⟨w.heap.size, 2, none⟩ = some (.int .i64 0) := hb3.cell_of rfl
  have d3 : wZ.cell? ⟨w.heap.size, 3, none⟩ = some (.int .i64 0) := hb3.cell_of rfl
  have d4 : wZ.cell? ⟨w.heap.size, 4, none⟩ = some (.int .i64 0) := hb3.cell_of rfl
  have d5 : wZ.cell? ⟨w.heap.size, 5, none⟩ = some (.int .i64 0) := hb3.cell_of rfl
  have d6 : wZ.cell? ⟨w.heap.size, 6, none⟩ = some (.int .i64 0) := hb3.cell_of rfl
  have s0 : wZ.cell? ⟨w.heap.size + 1, 0, none⟩ = some (.int .u64 0) := ht3.cell_of rfl
  have s1 : wZ.cell? ⟨w.heap.size + 1, 1, none⟩ = some (.int .u64 0) := ht3.cell_of rfl
  exact bodyPost_ret (v := .tuple #[.agg #[.int .i64 0, .int .i64 0, .int .i64 0, .int .i64 0, .int .i64 0, .int .i64 0, .int .i64 0], .slice none 0 0, .agg #[.int .u64 0, .int .u64 0], .int .i64 2]) (by simp [results, Try.results59, go_sem, d0, d1, d2, d3, d4, d5, d6, s0, s1]) rfl ⟨rfl, hF3⟩

set_option maxRecDepth 100000 in
set_option maxHeartbeats 12800000 in
theorem split_ok (v : Value) (l : List UInt8) (m : Ms) (w : World) (h : Rd w v (l.map bv)) (hl : l.length = 48) (hn : getM (l.take 32) = some m) :
    Calls Try.prog 59 #[v] w fun e w' => ∃ r, e = .returned (.tuple #[msgv m, r, keyv (wordAt (l.drop 32) 0, wordAt (l.drop 32) 8), .int .i64 0]) ∧ Own w' w.heap.size 5 r ((l.take 32).map bv) ∧ Fr none_ w w' := by
  have hG := fun wa va => wget_any va (l.take 32) wa
  have e1 : gv (l.take 32) = m := by unfold gv; rw [hn]; rfl
  have e2 : gc (l.take 32) = 0 := by unfold gc; rw [hn]; rfl
  rw [e1, e2] at hG
  have HR := Lib.hid h
  obtain ⟨ao, cap, rfl, hc1, hm1, _⟩ := h
  rw [List.length_map, hl] at HR hc1
  rw [List.length_map, hl]
  unfold maxLen at hm1
  obtain ⟨sb, so, rfl, hsb, _⟩ := rd_byte HR.out (j := 0) (by omega)
  have hFm := fun wa va (hv : Rd wa va ((l.drop 32).map bv)) => from_ok va (l.drop 32) wa hv (by rw [List.length_drop]; omega)
  have hCl := fun wa va (hv : Rd wa va ((l.take 32).map bv)) => clone_any va (l.take 32) wa hv (by rw [List.length_take]; omega)
  generalize (wordAt (l.drop 32) 0, wordAt (l.drop 32) 8) = t at *
  have HL := Lib.hid hl
  unfold msgv keyv at *
  have hB := (Blk.new w #[.int .i64 0, .int .i64 0, .int .i64 0, .int .i64 0, .int .i64 0, .int .i64 0, .int .i64 0] 68).alloc (.cells #[.int .u64 0, .int .u64 0] 52)
  have hT := Blk.new (w.alloc (.cells #[.int .i64 0, .int .i64 0, .int .i64 0, .int .i64 0, .int .i64 0, .int .i64 0, .int .i64 0] 68)) #[.int .u64 0, .int .u64 0] 52
  rw [World.size_alloc] at hT
  have hF := ((Fr.refl none_ w).alloc (.cells #[.int .i64 0, .int .i64 0, .int .i64 0, .int .i64 0, .int .i64 0, .int .i64 0, .int .i64 0] 68)).alloc (.cells #[.int .u64 0, .int .u64 0] 52)
  have hr := HR.out.kept hF (fun _ _ _ _ f => f)
  have hr32 := hr.take 32 (by rw [List.length_map, hl]; omega)
  rw [← List.map_take] at hr32
  have hle : (32 : Int) ≤ (cap : Int) := by omega
  clear hl
  go_enter Try.func59, Try.ntmps59
  go_wp2_with fail
  generalize (w.alloc (.cells #[.int .i64 0, .int .i64 0, .int .i64 0, .int .i64 0, .int .i64 0, .int .i64 0, .int .i64 0] 68)).alloc (.cells #[.int .u64 0, .int .u64 0] 52) = w0 at *
  refine (hG _ _ hr32).mono ?_
  rintro e w1 ⟨rfl, hf1⟩
  have hB1 := (hB.kept hf1 (fun f => f)).alloc (.cells #[.int .i64 m.kind, .int .i64 m.who, .int .i64 m.gen, .int .i64 m.seq, .int .i64 m.epoch, .int .i64 m.value, .int .i64 m.metric] 68)
  have hT1 := (hT.kept hf1 (fun f => f)).alloc (.cells #[.int .i64 m.kind, .int .i64 m.who, .int .i64 m.gen, .int .i64 m.seq, .int .i64 m.epoch, .int .i64 m.value, .int .i64 m.metric] 68)
  have hM1 := Blk.new w1 #[.int .i64 m.kind, .int .i64 m.who, .int .i64 m.gen, .int .i64 m.seq, .int .i64 m.epoch, .int .i64 m.value, .int .i64 m.metric] 68
  have hF1 := (hF.trans hf1).alloc (.cells #[.int .i64 m.kind, .int .i64 m.who, .int .i64 m.gen, .int .i64 m.seq, .int .i64 m.epoch, .int .i64 m.value, .int .i64 m.metric] 68)
  have hcl : w.heap.size + 1 < w1.heap.size := Nat.lt_of_lt_of_le hT.lt hf1.size
  have hr1 := (hr.kept hf1 (fun _ _ _ _ f => f)).alloc (.cells #[.int .i64 m.kind, .int .i64 m.who, .int .i64 m.gen, .int .i64 m.seq, .int .i64 m.epoch, .int .i64 m.value, .int .i64 m.metric] 68)
  clear hB hT hF hf1 hr hr32 hG HR
  have hcut := hr1.cut 32 (by rw [List.length_map, HL.out]; omega)
  rw [← List.map_drop] at hcut
  go_wp2_with fail
  generalize w1.alloc (.cells #[.int .i64 m.kind, .int .i64 m.who, .int .i64 m.gen, .int .i64 m.seq, .int .i64 m.epoch, .int .i64 m.value, .int .i64 m.metric] 68) = w2 at *
  generalize w1.heap.size = c at *
  refine (hFm _ _ hcut).mono ?_
  rintro e w3 ⟨rfl, hf3⟩
  have hB3 := (hB1.kept hf3 (fun f => f)).alloc (.cells #[.int .u64 (u t.1), .int .u64 (u t.2)] 52)
  have hT3 := (hT1.kept hf3 (fun f => f)).alloc (.cells #[.int .u64 (u t.1), .int .u64 (u t.2)] 52)
  have hM3 := (hM1.kept hf3 (fun f => f)).alloc (.cells #[.int .u64 (u t.1), .int .u64 (u t.2)] 52)
  have hU3 := Blk.new w3 #[.int .u64 (u t.1), .int .u64 (u t.2)] 52
  have hdl : w.heap.size + 1 < w3.heap.size := Nat.lt_of_lt_of_le hT1.lt hf3.size
  have hF3 := (hF1.trans hf3).alloc (.cells #[.int .u64 (u t.1), .int .u64 (u t.2)] 52)
  have hr3 := (hr1.kept hf3 (fun _ _ _ _ f => f)).alloc (.cells #[.int .u64 (u t.1), .int .u64 (u t.2)] 52)
  clear hB1 hT1 hM1 hF1 hr1 hcut hFm hf3
  go_wp2_with fail
  generalize w3.alloc (.cells #[.int .u64 (u t.1), .int .u64 (u t.2)] 52) = w4 at *
  generalize w3.heap.size = d at *
  have hcb := hM3.lt
  have hdb := hU3.lt
  have nSc : ¬ (c = w.heap.size ∨ c = w.heap.size + 1) := by omega
  have nSd : ¬ (d = w.heap.size ∨ d = w.heap.size + 1) := by omega
  have HU := Lib.hid (And.intro (msgAt_blk (m := m) hM3) (And.intro (show w4.cell? ⟨d, 0, none⟩ = some (.int .u64 (u t.1)) from hU3.cell_of rfl) (show w4.cell? ⟨d, 1, none⟩ = some (.int .u64 (u t.2)) from hU3.cell_of rfl)))
  have ks1 := fun (wa : World) (i j : Nat) (x : Value) => cell_set_other wa (b := w.heap.size) (c := c) (by omega) i j x
  have ks2 := fun (wa : World) (i j : Nat) (x : Value) => cell_set_other wa (b := w.heap.size) (c := d) (by omega) i j x
  have ks3 := fun (wa : World) (i j : Nat) (x : Value) => cell_set_other wa (b := w.heap.size + 1) (c := c) (by omega) i j x
  have ks4 := fun (wa : World) (i j : Nat) (x : Value) => cell_set_other wa (b := w.heap.size + 1) (c := d) (by omega) i j x
  have hg0 := (Fr.refl none_ w4).drew
  have hr4 := hr3.take 32 (by rw [List.length_map, HL.out]; omega)
  rw [← List.map_take] at hr4
  have HB4 := Lib.hid hB3
  have HT4 := Lib.hid hT3
  have hwl : w.heap.size + 1 < w4.heap.size := hT3.lt
  clear hB3 hT3 hr3 hM3 hU3
  refine region_tm [3, 5, 7] [] [0, 0, 2, 4, 0, 9, 47, 127, 255] [511, 511, 509, 0, 511, 0, 503, 0, 511] [0, 0, 2, 6, 0, 15, 47, 127, 255] 511 (.quiet 0 (.quiet 1 (.quiet 2 (.quiet 4 (.alt 3 (.alt 5 (.quiet 6 (.alt 7 (.quiet 8 .done) (.fin))) (.fin)) (.fin)))))) (fun w' => (w'.cell? ⟨c, 0, none⟩ = some (.int .i64 m.kind) ∧ w'.cell? ⟨c, 1, none⟩ = some (.int .i64 m.who) ∧ w'.cell? ⟨c, 2, none⟩ = some (.int .i64 m.gen) ∧ w'.cell? ⟨c, 3, none⟩ = some (.int .i64 m.seq) ∧ w'.cell? ⟨c, 4, none⟩ = some (.int .i64 m.epoch) ∧ w'.cell? ⟨c, 5, none⟩ = some (.int .i64 m.value) ∧ w'.cell? ⟨c, 6, none⟩ = some (.int .i64 m.metric)) ∧ w'.cell? ⟨d, 0, none⟩ = some (.int .u64 (u t.1)) ∧ w'.cell? ⟨d, 1, none⟩ = some (.int .u64 (u t.2))) (by as_aux_lemma => kernel_rfl) (by as_aux_lemma => kernel_rfl) (by as_aux_lemma => kernel_rfl) (by as_aux_lemma => kernel_rfl) (by as_aux_lemma => kernel_rfl) (by as_aux_lemma => kernel_rfl) (by as_aux_lemma => kernel_rfl) (by as_aux_lemma => kernel_rfl) (by first | (have hq := HU5.out; simp only [ks1, ks2, ks3, ks4]; exact hq) | exact HU5.out | exact HU.out) ?_
  repeat' (first
    | (refine t_float (v := ?_) (a' := ?_) rfl rfl rfl ?_ ?_ ?_
       rotate_left 2
       · (intro w' hU; (try dsimp only at hU); go_simp; with_reducible rfl)
       · (simp only [Act.put, List.setIfInBounds_toArray, List.set_cons_zero, List.set_cons_succ]; rfl))
    | (refine t_bound (v := ?_) (a' := ?_) rfl rfl rfl ?_ ?_ ?_
       rotate_left 2
       · (go_simp; with_reducible rfl)
       · (simp only [Act.put, List.setIfInBounds_toArray, List.set_cons_zero, List.set_cons_succ]; rfl))
    | exact t_fin
    | (refine t_acts rfl rfl (fun K hK => ?_) ?_
       go_simp; try (go_wp2_with ((go_at_call 94; refine (hCl _ _ hr4.drew).mono ?_; rintro e w5 ⟨v5, rfl, ho5, hf5⟩; have hg5 := hg0.trans hf5; have hgS : Fr (fun i => i = w.heap.size ∨ i = w.heap.size + 1) w4 w5 := hg5.mono (fun _ _ f => f.elim); have HU5 := Lib.hid (mt_kept hg5 hcb hdb (fun f => f) (fun f => f) HU.out); have hB5 := HB4.out.kept hg5 (fun f => f); have hT5 := HT4.out.kept hg5 (fun f => f); have b0 : w5.cell? ⟨w.heap.size, 0, none⟩ = some (.int .i64 0) := hB5.cell_of rfl; have f0 := hB5.free 0; have b1 : w5.cell? ⟨w.heap.size, 1, none⟩ = some (.int .i64 0) := hB5.cell_of rfl; have f1 := hB5.free 1; have b2 : w5.cell? ⟨w.heap.size, 2, none⟩ = some (.int .i64 0) := hB5.cell_of rfl; have f2 := hB5.free 2; have b3 : w5.cell? ⟨w.heap.size, 3, none⟩ = some (.int .i64 0) := hB5.cell_of rfl; have f3 := hB5.free 3; have b4 : w5.cell? ⟨w.heap.size, 4, none⟩ = some (.int .i64 0) := hB5.cell_of rfl; have f4 := hB5.free 4; have b5 : w5.cell? ⟨w.heap.size, 5, none⟩ = some (.int .i64 0) := hB5.cell_of rfl; have f5 := hB5.free 5; have b6 : w5.cell? ⟨w.heap.size, 6, none⟩ = some (.int .i64 0) := hB5.cell_of rfl; have f6 := hB5.free 6; have t0 : w5.cell? ⟨w.heap.size + 1, 0, none⟩ = some (.int .u64 0) := hT5.cell_of rfl; have g0 := hT5.free 0; have t1 : w5.cell? ⟨w.heap.size + 1, 1, none⟩ = some (.int .u64 0) := hT5.cell_of rfl; have g1 := hT5.free 1)))
       refine hK.out _ _ (by first | (have hq := HU5.out; simp only [ks1, ks2, ks3, ks4]; exact hq) | exact HU5.out | exact HU.out) ?_
       clear hK K))
  all_goals (refine t_done ?_)
  all_goals
    obtain ⟨hb3, ht3⟩ := both9 hB5 hT5 (.int .i64 m.kind) (.int .i64 m.who) (.int .i64 m.gen) (.int .i64 m.seq) (.int .i64 m.epoch) (.int .i64 m.value) (.int .i64 m.metric) (.int .u64 (u t.1)) (.int .u64 (u t.2))
    have hF6 := fr2 (fr7 (hF3.trans hg5) (b := w.heap.size) (fun h => by omega) (.int .i64 m.kind) (.int .i64 m.who) (.int .i64 m.gen) (.int .i64 m.seq) (.int .i64 m.epoch) (.int .i64 m.value) (.int .i64 m.metric)) (b := w.heap.size + 1) (fun h => by omega) (.int .u64 (u t.1)) (.int .u64 (u t.2))
    have hO6 := ho5.kept (fr2 (fr7 (Fr.refl (fun i => i = w.heap.size ∨ i = w.heap.size + 1) w5) (b := w.heap.size) (fun _ => .inl rfl) (.int .i64 m.kind) (.int .i64 m.who) (.int .i64 m.gen) (.int .i64 m.seq) (.int .i64 m.epoch) (.int .i64 m.value) (.int .i64 m.metric)) (b := w.heap.size + 1) (fun _ => .inr rfl) (.int .u64 (u t.1)) (.int .u64 (u t.2))) (fun k hk hs => by have h1 := (ho5.blk k hk).1; have h2 := hg0.size; rcases hs with hs | hs <;> omega)
    generalize (((((((((w5.setCell ⟨w.heap.size, 0, none⟩ (.int .i64 m.kind)).setCell ⟨w.heap.size, 1, none⟩ (.int .i64 m.who)).setCell ⟨w.heap.size, 2, none⟩ (.int .i64 m.gen)).setCell ⟨w.heap.size, 3, none⟩ (.int .i64 m.seq)).setCell ⟨w.heap.size, 4, none⟩ (.int .i64 m.epoch)).setCell ⟨w.heap.size, 5, none⟩ (.int .i64 m.value)).setCell ⟨w.heap.size, 6, none⟩ (.int .i64 m.metric)).setCell ⟨w.heap.size + 1, 0, none⟩ (.int .u64 (u t.1))).setCell ⟨w.heap.size + 1, 1, none⟩ (.int .u64 (u t.2))) = wZ at *
    have d0 : wZ.cell? ⟨w.heap.size, 0, none⟩ = some (.int .i64 m.kind) := hb3.cell_of rfl
    have d1 : wZ.cell? ⟨w.heap.size, 1, none⟩ = some (.int .i64 m.who) := hb3.cell_of rfl
    have d2 : wZ.cell? ⟨w.heap.size, 2, none⟩ = some (.int .i64 m.gen) := hb3.cell_of rfl
    have d3 : wZ.cell? ⟨w.heap.size, 3, none⟩ = some (.int .i64 m.seq) := hb3.cell_of rfl
    have d4 : wZ.cell? ⟨w.heap.size, 4, none⟩ = some (.int .i64 m.epoch) := hb3.cell_of rfl
    have d5 : wZ.cell? ⟨w.heap.size, 5, none⟩ = some (.int .i64 m.value) := hb3.cell_of rfl
    have d6 : wZ.cell? ⟨w.heap.size, 6, none⟩ = some (.int .i64 m.metric) := hb3.cell_of rfl
    have s0 : wZ.cell? ⟨w.heap.size + 1, 0, none⟩ = some (.int .u64 (u t.1)) := ht3.cell_of rfl
    have s1 : wZ.cell? ⟨w.heap.size + 1, 1, none⟩ = some (.int .u64 (u t.2)) := ht3.cell_of rfl
    go_wp2_with fail
    exact bodyPost_ret (v := .tuple #[.agg #[.int .i64 m.kind, .int .i64 m.who, .int .i64 m.gen, .int .i64 m.seq, .int .i64 m.epoch, .int .i64 m.value, .int .i64 m.metric], v5, .agg #[.int .u64 (u t.1), .int .u64 (u t.2)], .int .i64 0]) (by simp [results, Try.results59, go_sem, d0, d1, d2, d3, d4, d5, d6, s0, s1]) rfl ⟨_, rfl, hO6.mono (by have := hg0.size; omega), hF6⟩
end Go.Proofs.Ytandenkoejbloaa
