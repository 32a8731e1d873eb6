/- Walks of mac.Root and mac.Of. -/
import Derived.Test.YtandenkoejbloaaDer
namespace Go.Proofs.Ytandenkoejbloaa
open Go Go.RowKit

set_option maxRecDepth 100000 in
set_option maxHeartbeats 1600000 in
theorem root_any (seed : W) (w : World) :
    Calls Try.prog 47 #[.int .u64 (u seed)] w fun e w' => e = .returned (keyv (rootW seed)) ∧ Fr none_ w w' := by
  unfold keyv
  have hR := Blk.new w #[.int .u64 0, .int .u64 0] 56
  have hF := (Fr.refl none_ w).alloc (.cells #[.int .u64 0, .int .u64 0] 56)
  have h1 : Calls Try.prog 45 #[.agg #[.int .u64 (u seed), .int .u64 (u (seed + 1))], .string { data := #[114, 111, 111, 116] }, .int .u64 0] (w.alloc (.cells #[.int .u64 0, .int .u64 0] 56)) fun e w' => e = .returned (keyv (rootW seed)) ∧ Fr none_ (w.alloc (.cells #[.int .u64 0, .int .u64 0] 56)) w' := derive_any (seed, seed + 1) rootL 0 _ (by decide)
  have H1 := Lib.hid h1
  have hadd : IntKind.u64.wrap (u seed + 1) = u (seed + 1) := u_add seed 1
  clear h1
  generalize rootW seed = kk at *
  go_enter Try.func47, Try.ntmps47
  go_wp2_with fail
  refine H1.out.mono ?_
  unfold keyv
  rintro e w1 ⟨rfl, hf1⟩
  have hR1 := hR.kept hf1 (fun f => f)
  have hF1 := hF.trans hf1
  have b0 : w1.cell? ⟨w.heap.size, 0, none⟩ = some (.int .u64 0) := hR1.cell_of rfl
  have b1 : w1.cell? ⟨w.heap.size, 1, none⟩ = some (.int .u64 0) := hR1.cell_of rfl
  have f0 := hR1.free 0
  have f1 := hR1.free 1
  go_wp2_with fail
  have hb3 := (hR1.setCell 0 (.int .u64 (u kk.1))).setCell 1 (.int .u64 (u kk.2))
  have hF3 : Fr none_ w ((w1.setCell ⟨w.heap.size, 0, none⟩ (.int .u64 (u kk.1))).setCell ⟨w.heap.size, 1, none⟩ (.int .u64 (u kk.2))) := (hF1.setCell (fun h => by simp at h) _).setCell (fun h => by simp at h) _
  generalize (w1.setCell ⟨w.heap.size, 0, none⟩ (.int .u64 (u kk.1))).setCell ⟨w.heap.size, 1, none⟩ (.int .u64 (u kk.2)) = w3 at *
  have d0 : w3.cell? ⟨w.heap.size, 0, none⟩ = some (.int .u64 (u kk.1)) := hb3.cell_of rfl
  have d1 : w3.cell? ⟨w.heap.size, 1, none⟩ = some (.int .u64 (u kk.2)) := hb3.cell_of rfl
  exact bodyPost_ret (v := .agg #[.int .u64 (u kk.1), .int .u64 (u kk.2)]) (by simp [results, Try.results47, go_sem, d0, d1]) rfl ⟨rfl, hF3⟩

set_option maxRecDepth 100000 in
set_option maxHeartbeats 1600000 in
theorem of_any (seed : W) (who gen : Int) (w : World) :
    Calls Try.prog 49 #[.int .u64 (u seed), .int .i64 who, .int .i64 gen] w fun e w' => e = .returned (keyv (ofW seed who gen)) ∧ Fr none_ w w' := by
  unfold keyv
  have hR := Blk.new w #[.int .u64 0, .int .u64 0] 56
  have hF := (Fr.refl none_ w).alloc (.cells #[.int .u64 0, .int .u64 0] 56)
  have hw1 : IntKind.u64.wrap who = u (wi who) := (u_ofInt who).symm
  have hw2 : IntKind.u64.wrap gen = u (wi gen) := (u_ofInt gen).symm
  have H2 : ∀ wa, (Calls Try.prog 45 #[.agg #[.int .u64 (u (rootW seed).1), .int .u64 (u (rootW seed).2)], .string { data := #[119, 104, 111] }, .int .u64 (u (wi who))] wa fun e w' => e = .returned (keyv (deriveW (rootW seed) whoL (wi who))) ∧ Fr none_ wa w') := fun wa => (derive_any (rootW seed) whoL (wi who) wa (by decide))
  have H3 : ∀ wa, (Calls Try.prog 45 #[.agg #[.int .u64 (u (deriveW (rootW seed) whoL (wi who)).1), .int .u64 (u (deriveW (rootW seed) whoL (wi who)).2)], .string { data := #[103, 101, 110] }, .int .u64 (u (wi gen))] wa fun e w' => e = .returned (keyv (ofW seed who gen)) ∧ Fr none_ wa w') := fun wa => (derive_any (deriveW (rootW seed) whoL (wi who)) genL (wi gen) wa (by decide))
  have H1 : ∀ wa, (Calls Try.prog 47 #[.int .u64 (u seed)] wa fun e w' => e = .returned (keyv (rootW seed)) ∧ Fr none_ wa w') := fun wa => (root_any seed wa)
  generalize ofW seed who gen = kk at *
  generalize deriveW (rootW seed) whoL (wi who) = k2 at *
  generalize rootW seed = k1 at *
  go_enter Try.func49, Try.ntmps49
  go_wp2_with fail
  refine (H1 _).mono ?_
  unfold keyv
  rintro e w1 ⟨rfl, hf1⟩
  have hR1 := hR.kept hf1 (fun f => f)
  have hF1 := hF.trans hf1
  clear H1 hR hF hf1
  go_wp2_with fail
  refine (H2 _).mono ?_
  unfold keyv
  rintro e w2 ⟨rfl, hf2⟩
  have hR2 := hR1.kept hf2 (fun f => f)
  have hF2 := hF1.trans hf2
  clear H2 hR1 hF1 hf2
  go_wp2_with fail
  refine (H3 _).mono ?_
  unfold keyv
  rintro e w3 ⟨rfl, hf3⟩
  have hR3 := hR2.kept hf3 (fun f => f)
  have hF3 := hF2.trans hf3
  clear H3 hR2 hF2 hf3
  have b0 : w3.cell? ⟨w.heap.size, 0, none⟩ = some (.int .u64 0) := hR3.cell_of rfl
  have b1 : w3.cell? ⟨w.heap.size, 1, none⟩ = some (.int .u64 0) := hR3.cell_of rfl
  have f0 := hR3.free 0
  have f1 := hR3.free 1
  go_wp2_with fail
  have hb4 := (hR3.setCell 0 (.int .u64 (u kk.1))).setCell 1 (.int .u64 (u kk.2))
  have hF4 : Fr none_ w ((w3.setCell ⟨w.heap.size, 0, none⟩ (.int .u64 (u kk.1))).setCell ⟨w.heap.size, 1, none⟩ (.int .u64 (u kk.2))) := (hF3.setCell (fun h => by simp at h) _).setCell (fun h => by simp at h) _
  generalize (w3.setCell ⟨w.heap.size, 0, none⟩ (.int .u64 (u kk.1))).setCell ⟨w.heap.size, 1, none⟩ (.int .u64 (u kk.2)) = w4 at *
  have d0 : w4.cell? ⟨w.heap.size, 0, none⟩ = some (.int .u64 (u kk.1)) := hb4.cell_of rfl
  have d1 : w4.cell? ⟨w.heap.size, 1, none⟩ = some (.int .u64 (u kk.2)) := hb4.cell_of rfl
  exact bodyPost_ret (v := .agg #[.int .u64 (u kk.1), .int .u64 (u kk.2)]) (by simp [results, Try.results49, go_sem, d0, d1]) rfl ⟨rfl, hF4⟩
end Go.Proofs.Ytandenkoejbloaa
