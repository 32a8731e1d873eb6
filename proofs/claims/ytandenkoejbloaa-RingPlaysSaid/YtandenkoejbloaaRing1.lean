/- Walks of ring.New and (*Ring).at. -/
import Derived.Test.YtandenkoejbloaaRing0
import Derived.Test.YtandenkoejbloaaRingP
import Derived.Laws.MakeOwn
namespace Go.Proofs.Ytandenkoejbloaa
open Go Go.RowKit

/-- A ring: its own block, its row of generations. -/
def RgAt (w : World) (b lb : Nat) (seed : W) (grace : Int) (g : Gs) : Prop :=
  b ≠ lb ∧ okG g ∧ 1 ≤ grace ∧ grace ≤ 100 ∧ g.length ≤ 16 ∧ Blk w lb 152 (flat g) ∧
    ∃ q : Int, Blk w b 147 [.int .u64 (u seed), .slice (some ⟨lb, 0, none⟩) g.length g.length, .int .i64 grace, .int .i64 q]
theorem RgAt.kept {S : Nat → Prop} {w w' : World} {b lb : Nat} {seed : W} {grace : Int} {g : Gs} (h : RgAt w b lb seed grace g) (hf : Fr S w w') (h1 : ¬ S b) (h2 : ¬ S lb) : RgAt w' b lb seed grace g := by
  obtain ⟨a1, a2, a3, a4, a5, a6, q, a7⟩ := h
  exact ⟨a1, a2, a3, a4, a5, a6.kept hf h2, q, a7.kept hf h1⟩
theorem RgAt.drew {w : World} {b lb : Nat} {seed : W} {grace : Int} {g : Gs} (h : RgAt w b lb seed grace g) : RgAt w.drew b lb seed grace g := h
/-- What a ring's calls may write. -/
def two (b lb : Nat) : Nat → Prop := fun k => k = b ∨ k = lb

def badR (n grace : Int) : Prop := n < 1 ∨ 16 < n ∨ grace < 1 ∨ 100 < grace

set_option maxHeartbeats 800000 in
theorem rnew_bad (seed : W) (n grace : Int) (w : World) (h : badR n grace) : Calls Try.prog 63 #[.int .u64 (u seed), .int .i64 n, .int .i64 grace] w fun e w' => e = .returned (.pointer none) ∧ w = w' := by
  unfold badR at h
  go_enter Try.func63, Try.ntmps63
  go_wp2
  all_goals first
    | (exfalso; omega)
    | exact bodyPost_ret (v := .pointer none) (by simp [results, Try.results63, go_sem]) rfl ⟨rfl, rfl⟩

theorem info_one : (Try.prog.info? 152).map (fun i => (i.zero, i.size, i.bytes)) = some (some (.agg #[.int .i64 0, .int .i64 0]), 2, 16) := by kernel_rfl
set_option maxRecDepth 100000 in
set_option maxHeartbeats 1600000 in
theorem rnew_ok (seed : W) (n grace : Int) (w : World) (h : ¬ badR n grace) : Calls Try.prog 63 #[.int .u64 (u seed), .int .i64 n, .int .i64 grace] w fun e w' =>
    ∃ b lb, e = .returned (.pointer (some ⟨b, 0, none⟩)) ∧ w.heap.size ≤ b ∧ w.heap.size ≤ lb ∧ RgAt w' b lb seed grace (List.replicate n.toNat (0, 0)) ∧ Fr none_ w w' := by
  unfold badR at h
  obtain ⟨m, rfl⟩ : ∃ m : Nat, n = m := ⟨n.toNat, by omega⟩
  obtain ⟨i0, hi, hz0⟩ : ∃ i, Try.prog.info? 152 = some i ∧ i.zero = some (.agg #[.int .i64 0, .int .i64 0]) ∧ i.size = 2 ∧ i.bytes = 16 := by
    obtain ⟨i, h1, h2⟩ := Option.map_eq_some_iff.1 info_one
    simp only [Prod.mk.injEq] at h2
    exact ⟨i, h1, h2⟩
  have hmk : ∀ w : World, (Instr.makeSlice 140 (.int .i64 (m : Int)) (.int .i64 (m : Int))).run Try.prog w = .ok (.slice (some ⟨w.heap.size, 0, none⟩) m m) (w.alloc (.cells (flat (List.replicate m (0, 0))).toArray 152)) := by
    intro w
    have := run_make (P := Try.prog) w 140 152 i0 (.agg #[.int .i64 0, .int .i64 0]) Try.underlying140 hi hz0.1 .i64 .i64 m m (by omega) (by omega) (by rw [hz0.2.2]; omega) (by omega)
    rw [this, hz0.2.1, flat_zeros, Int.toNat_natCast]
    unfold madeCells
    congr 3
    apply Array.ext'
    simp [Value.cells]
  go_enter Try.func63, Try.ntmps63
  go_wp2
  go_ret
  rw [Int.toNat_natCast]
  have hb1 := (Blk.new w (flat (List.replicate m (0, 0))).toArray 152).alloc (.cells #[.int .u64 (u seed), .slice (some ⟨w.heap.size, 0, none⟩) m m, .int .i64 grace, .int .i64 0] 147)
  have hb2 := Blk.new (w.alloc (.cells (flat (List.replicate m (0, 0))).toArray 152)) #[.int .u64 (u seed), .slice (some ⟨w.heap.size, 0, none⟩) m m, .int .i64 grace, .int .i64 0] 147
  rw [World.size_alloc] at hb2
  refine ⟨_, _, rfl, by omega, Nat.le_refl _, ⟨by omega, okG_zero m, by omega, by omega, by rw [List.length_replicate]; omega, hb1, 0, ?_⟩, ((Fr.refl none_ w).alloc _).alloc _⟩
  rw [List.length_replicate]
  exact hb2

theorem at_nil (who : Int) (w : World) : Calls Try.prog 97 #[.pointer none, .int .i64 who] w fun e w' => e = .returned (.tuple #[.pointer none, .int .i64 1]) ∧ w = w' := by
  go_enter Try.func97, Try.ntmps97
  go_wp2
  exact bodyPost_ret (v := .tuple #[.pointer none, .int .i64 1]) (by simp [results, Try.results97, go_sem]) rfl ⟨rfl, rfl⟩
section
variable {b lb : Nat} {seed : W} {grace : Int} {g : Gs} {w : World}
set_option maxHeartbeats 800000 in
theorem at_out (h : RgAt w b lb seed grace g) (who : Int) (ho : who < 0 ∨ (g.length : Int) ≤ who) : Calls Try.prog 97 #[.pointer (some ⟨b, 0, none⟩), .int .i64 who] w fun e w' => e = .returned (.tuple #[.pointer none, .int .i64 3]) ∧ w = w' := by
  obtain ⟨_, _, _, _, _, _, q, hb⟩ := h
  have c1 : w.cell? ⟨b, 1, none⟩ = some (.slice (some ⟨lb, 0, none⟩) g.length g.length) := hb.cell_of rfl
  clear hb
  go_enter Try.func97, Try.ntmps97
  go_wp2
  all_goals first
    | (exfalso; omega)
    | exact bodyPost_ret (v := .tuple #[.pointer none, .int .i64 3]) (by simp [results, Try.results97, go_sem]) rfl ⟨rfl, rfl⟩
set_option maxHeartbeats 800000 in
theorem at_in (h : RgAt w b lb seed grace g) (who : Nat) (ho : who < g.length) : Calls Try.prog 97 #[.pointer (some ⟨b, 0, none⟩), .int .i64 who] w fun e w' => e = .returned (.tuple #[.pointer (some ⟨lb, who * 2, none⟩), .int .i64 0]) ∧ w = w' := by
  obtain ⟨_, _, _, _, _, _, q, hb⟩ := h
  have c1 : w.cell? ⟨b, 1, none⟩ = some (.slice (some ⟨lb, 0, none⟩) g.length g.length) := hb.cell_of rfl
  clear hb
  have ho' : (who : Int) < (g.length : Int) := by omega
  go_enter Try.func97, Try.ntmps97
  go_wp2
  all_goals first
    | (exfalso; omega)
    | exact bodyPost_ret (v := .tuple #[.pointer (some ⟨lb, who * 2, none⟩), .int .i64 0]) (by simp [results, Try.results97, go_sem]) rfl ⟨rfl, rfl⟩
/-- A collector's generation and since, in the cells of the row. -/
theorem RgAt.cells (h : RgAt w b lb seed grace g) {who : Nat} {p : Int × Int} (hp : g[who]? = some p) : w.cell? ⟨lb, who * 2, none⟩ = some (.int .i64 p.1) ∧ w.cell? ⟨lb, who * 2 + 1, none⟩ = some (.int .i64 p.2) := by
  have hb := h.2.2.2.2.2.1
  rw [Nat.mul_comm]
  exact ⟨hb.cell_of (by rw [flat_at0, hp]; rfl), hb.cell_of (by rw [flat_at1, hp]; rfl)⟩
theorem RgAt.head (h : RgAt w b lb seed grace g) : ∃ q : Int, w.cell? ⟨b, 0, none⟩ = some (.int .u64 (u seed)) ∧ w.cell? ⟨b, 2, none⟩ = some (.int .i64 grace) ∧ w.cell? ⟨b, 3, none⟩ = some (.int .i64 q) ∧ w.frozen? ⟨b, 3, none⟩ = false := by
  obtain ⟨_, _, _, _, _, _, q, hb⟩ := h
  exact ⟨q, hb.cell_of rfl, hb.cell_of rfl, hb.cell_of rfl, hb.free 3⟩
theorem RgAt.asked (h : RgAt w b lb seed grace g) (q : Int) : RgAt (w.setCell ⟨b, 3, none⟩ (.int .i64 q)) b lb seed grace g := by
  obtain ⟨a1, a2, a3, a4, a5, a6, q0, a7⟩ := h
  exact ⟨a1, a2, a3, a4, a5, a6.setCell_other a1 _, q, a7.setCell 3 _⟩
theorem RgAt.put (h : RgAt w b lb seed grace g) (who : Nat) {x y : Int} (h1 : 0 ≤ x) (h2 : x ≤ 60000) (h3 : 0 ≤ y) (h4 : y ≤ 1099511627776) :
    RgAt ((w.setCell ⟨lb, who * 2, none⟩ (.int .i64 x)).setCell ⟨lb, who * 2 + 1, none⟩ (.int .i64 y)) b lb seed grace (g.set who (x, y)) := by
  obtain ⟨a1, a2, a3, a4, a5, a6, q0, a7⟩ := h
  refine ⟨a1, okG_set a2 who h1 h2 h3 h4, a3, a4, by rw [List.length_set]; exact a5, ?_, q0, ?_⟩
  · have := (a6.setCell (who * 2) (.int .i64 x)).setCell (who * 2 + 1) (.int .i64 y)
    rw [Nat.mul_comm who 2, flat_set] at this
    rw [Nat.mul_comm who 2]
    exact this
  · rw [List.length_set]
    exact (a7.setCell_other (Ne.symm a1) _).setCell_other (Ne.symm a1) _
end
end Go.Proofs.Ytandenkoejbloaa
