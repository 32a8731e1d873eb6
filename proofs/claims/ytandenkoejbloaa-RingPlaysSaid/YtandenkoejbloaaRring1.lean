/- Walk of the document's NewRing. -/
import Derived.Test.YtandenkoejbloaaRing2
import Derived.Test.YtandenkoejbloaaRegM
namespace Go.Proofs.Ytandenkoejbloaa
open Go Go.RowKit

/-- The document's ring. -/
def RfAt (w : World) (b gb sb : Nat) (seed : W) (grace : Int) (g : Gs) : Prop :=
  b ≠ gb ∧ b ≠ sb ∧ gb ≠ sb ∧ okG g ∧ 1 ≤ grace ∧ grace ≤ 100 ∧ g.length ≤ 16 ∧ Blk w gb 3 (g.map fun p => .int .i64 p.1) ∧ Blk w sb 2 (g.map fun p => .int .i64 p.2) ∧
    Blk w b 98 [.int .u64 (u seed), .int .i64 grace, .slice (some ⟨gb, 0, none⟩) g.length g.length, .slice (some ⟨sb, 0, none⟩) g.length g.length]
theorem RfAt.kept {S : Nat → Prop} {w w' : World} {b gb sb : Nat} {seed : W} {grace : Int} {g : Gs} (h : RfAt w b gb sb seed grace g) (hf : Fr S w w') (h1 : ¬ S b) (h2 : ¬ S gb) (h3 : ¬ S sb) : RfAt w' b gb sb seed grace g := by
  obtain ⟨a1, a2, a3, a4, a5, a6, a7, a8, a9, a10⟩ := h
  exact ⟨a1, a2, a3, a4, a5, a6, a7, a8.kept hf h2, a9.kept hf h3, a10.kept hf h1⟩
/-- What the calls of a document's ring may write. -/
def rtwo (gb sb : Nat) : Nat → Prop := fun k => k = gb ∨ k = sb

set_option maxHeartbeats 800000 in
theorem fnew_bad (seed : W) (n grace : Int) (w : World) (h : badR n grace) : Calls Try.prog 64 #[.int .u64 (u seed), .int .i64 n, .int .i64 grace] w fun e w' => e = .returned (.pointer none) ∧ w = w' := by
  unfold badR at h
  go_enter Try.func64, Try.ntmps64
  go_wp2_with fail
  all_goals first
    | (exfalso; omega)
    | exact bodyPost_ret (v := .pointer none) (by simp [results, Try.results64, go_sem]) rfl ⟨rfl, rfl⟩

theorem fresh_ring (seed : W) (grace : Int) (w' : World) (m : Nat) (gb sb : Nat) {b : Nat} (h1 : 1 ≤ grace) (h2 : grace ≤ 100) (h3 : m ≤ 16) (hb : b ≠ gb ∧ b ≠ sb) (hg : gb ≠ sb)
    (b1 : Blk w' gb 3 (Array.replicate m (.int .i64 0)).toList) (b2 : Blk w' sb 2 (Array.replicate m (.int .i64 0)).toList)
    (b3 : Blk w' b 98 [.int .u64 (u seed), .int .i64 grace, .slice (some ⟨gb, 0, none⟩) m m, .slice (some ⟨sb, 0, none⟩) m m]) : RfAt w' b gb sb seed grace (List.replicate m (0, 0)) := by
  refine ⟨hb.1, hb.2, hg, okG_zero m, h1, h2, by rw [List.length_replicate]; exact h3, ?_, ?_, ?_⟩
  · simpa using b1
  · simpa using b2
  · rw [List.length_replicate]; exact b3
theorem info_int : (Try.prog.info? 3).map (fun i => (i.zero, i.size, i.bytes)) = some (some (.int .i64 0), 1, 8) := by kernel_rfl
theorem info_int64 : (Try.prog.info? 2).map (fun i => (i.zero, i.size, i.bytes)) = some (some (.int .i64 0), 1, 8) := by kernel_rfl
set_option maxRecDepth 100000 in
set_option maxHeartbeats 1600000 in
theorem fnew_ok (seed : W) (n grace : Int) (w : World) (h : ¬ badR n grace) : Calls Try.prog 64 #[.int .u64 (u seed), .int .i64 n, .int .i64 grace] w fun e w' =>
    ∃ b gb sb, e = .returned (.pointer (some ⟨b, 0, none⟩)) ∧ w.heap.size ≤ b ∧ w.heap.size ≤ gb ∧ w.heap.size ≤ sb ∧ RfAt w' b gb sb seed grace (List.replicate n.toNat (0, 0)) ∧ Fr none_ w w' := by
  unfold badR at h
  obtain ⟨m, rfl⟩ : ∃ m : Nat, n = m := ⟨n.toNat, by omega⟩
  obtain ⟨i0, hi, hz0, hz1, hz2⟩ := info_parts info_int
  obtain ⟨j0, hj, hy0, hy1, hy2⟩ := info_parts info_int64
  have hmk : ∀ w : World, (Instr.makeSlice 96 (.int .i64 (m : Int)) (.int .i64 (m : Int))).run Try.prog w = .ok (.slice (some ⟨w.heap.size, 0, none⟩) m m) (w.alloc (.cells (List.replicate m (.int .i64 0)).toArray 3)) := by
    intro w
    have := run_make (P := Try.prog) w 96 3 i0 (.int .i64 0) Try.underlying96 hi hz0 .i64 .i64 m m (by omega) (by omega) (by rw [hz2]; omega) (by omega)
    rw [this, hz1, Int.toNat_natCast, Nat.mul_one, madeCells_one _ rfl]
  have hml : ∀ w : World, (Instr.makeSlice 85 (.int .i64 (m : Int)) (.int .i64 (m : Int))).run Try.prog w = .ok (.slice (some ⟨w.heap.size, 0, none⟩) m m) (w.alloc (.cells (List.replicate m (.int .i64 0)).toArray 2)) := by
    intro w
    have := run_make (P := Try.prog) w 85 2 j0 (.int .i64 0) Try.underlying85 hj hy0 .i64 .i64 m m (by omega) (by omega) (by rw [hy2]; omega) (by omega)
    rw [this, hy1, Int.toNat_natCast, Nat.mul_one, madeCells_one _ rfl]
  go_enter Try.func64, Try.ntmps64
  go_wp2_with fail
  all_goals try (exfalso; omega)
  refine region_tm [3, 5, 7] [] [0, 0, 0, 4, 0, 16, 43, 64, 255] [511, 511, 511, 0, 511, 0, 468, 0, 383] [0, 0, 0, 4, 0, 16, 63, 127, 255] 511 (.quiet 0 (.quiet 1 (.quiet 2 (.quiet 4 (.alt 3 (.alt 5 (.quiet 6 (.alt 7 (.quiet 8 .done) (.fin))) (.fin)) (.alt 5 (.alt 3 (.quiet 6 (.alt 7 (.quiet 8 .done) (.fin))) (.fin)) (.fin))))))) (fun _ => True) (by as_aux_lemma => kernel_rfl) (by as_aux_lemma => kernel_rfl) (by as_aux_lemma => kernel_rfl) (by as_aux_lemma => kernel_rfl) (by as_aux_lemma => kernel_rfl) (by as_aux_lemma => kernel_rfl) (by as_aux_lemma => kernel_rfl) (by as_aux_lemma => kernel_rfl) trivial ?_
  repeat' (first
    | (refine t_float (v := ?_) (a' := ?_) rfl rfl rfl ?_ ?_ ?_
       rotate_left 2
       · (intro w' _; go_simp; with_reducible rfl)
       · (simp only [Act.put, List.setIfInBounds_toArray, List.set_cons_zero, List.set_cons_succ]; rfl))
    | (refine t_bound (v := ?_) (a' := ?_) rfl rfl rfl ?_ ?_ ?_
       rotate_left 2
       · (go_simp; with_reducible rfl)
       · (simp only [Act.put, List.setIfInBounds_toArray, List.set_cons_zero, List.set_cons_succ]; rfl))
    | exact t_fin
    | (refine t_acts rfl rfl (fun K hK => ?_) ?_
       go_simp
       refine hK.out _ _ trivial ?_
       clear hK K))
  all_goals (refine t_done ?_)
  all_goals
    go_wp2_with fail
    refine bodyPost_ret (by simp [results, Try.results64, go_sem]; rfl) rfl ?_
    rw [Int.toNat_natCast]
    first
      | exact ⟨_, w.heap.size, w.heap.size + 1, rfl, by omega, by omega, by omega, fresh_ring seed grace _ m _ _ (by omega) (by omega) (by omega) (by omega) (by omega) (Blk.new w _ _ |>.alloc _ |>.alloc _) (by have := (Blk.new (w.alloc (.cells (Array.replicate m (.int .i64 0)) 3)) (Array.replicate m (.int .i64 0)) 2).alloc (.cells #[.int .u64 (u seed), .int .i64 grace, .slice (some ⟨w.heap.size, 0, none⟩) m m, .slice (some ⟨w.heap.size + 1, 0, none⟩) m m] 98); rw [World.size_alloc] at this; exact this) (by have := Blk.new ((w.alloc (.cells (Array.replicate m (.int .i64 0)) 3)).alloc (.cells (Array.replicate m (.int .i64 0)) 2)) #[.int .u64 (u seed), .int .i64 grace, .slice (some ⟨w.heap.size, 0, none⟩) m m, .slice (some ⟨w.heap.size + 1, 0, none⟩) m m] 98; rw [World.size_alloc, World.size_alloc] at this; exact this), ((((Fr.refl none_ w).alloc _).alloc _).alloc _).drew⟩
      | exact ⟨_, w.heap.size + 1, w.heap.size, rfl, by omega, by omega, by omega, fresh_ring seed grace _ m _ _ (by omega) (by omega) (by omega) (by omega) (by omega) (by have := (Blk.new (w.alloc (.cells (Array.replicate m (.int .i64 0)) 2)) (Array.replicate m (.int .i64 0)) 3).alloc (.cells #[.int .u64 (u seed), .int .i64 grace, .slice (some ⟨w.heap.size + 1, 0, none⟩) m m, .slice (some ⟨w.heap.size, 0, none⟩) m m] 98); rw [World.size_alloc] at this; exact this) (Blk.new w _ _ |>.alloc _ |>.alloc _) (by have := Blk.new ((w.alloc (.cells (Array.replicate m (.int .i64 0)) 2)).alloc (.cells (Array.replicate m (.int .i64 0)) 3)) #[.int .u64 (u seed), .int .i64 grace, .slice (some ⟨w.heap.size + 1, 0, none⟩) m m, .slice (some ⟨w.heap.size, 0, none⟩) m m] 98; rw [World.size_alloc, World.size_alloc] at this; exact this), ((((Fr.refl none_ w).alloc _).alloc _).alloc _).drew⟩
end Go.Proofs.Ytandenkoejbloaa
