/- Walks of mac.From and of the document's Tag and TagBytes. -/
import Derived.Test.YtandenkoejbloaaMac1
namespace Go.Proofs.Ytandenkoejbloaa
open Go Go.RowKit

set_option maxRecDepth 100000 in
set_option maxHeartbeats 3200000 in
theorem rtag_any (k : W × W) (l : List UInt8) (w : World) (hl : l.length ≤ 140737488355000) :
    Calls Try.prog 43 #[keyv k, .string (bs l)] w fun e w' => e = .returned (keyv (tagW k l)) ∧ Fr none_ w w' := by
  unfold keyv
  have hB := (Blk.new w #[.int .u64 (u k.1), .int .u64 (u k.2)] 56).alloc (.cells #[.int .u64 0, .int .u64 0] 52)
  have hT := Blk.new (w.alloc (.cells #[.int .u64 (u k.1), .int .u64 (u k.2)] 56)) #[.int .u64 0, .int .u64 0] 52
  rw [World.size_alloc] at hT
  have hF := ((Fr.refl none_ w).alloc (.cells #[.int .u64 (u k.1), .int .u64 (u k.2)] 56)).alloc (.cells #[.int .u64 0, .int .u64 0] 52)
  go_enter Try.func43, Try.ntmps43
  go_wp2_with fail
  generalize (w.alloc (.cells #[.int .u64 (u k.1), .int .u64 (u k.2)] 56)).alloc (.cells #[.int .u64 0, .int .u64 0] 52) = w0 at *
  have hbl := hB.lt
  have p0 : w0.cell? ⟨w.heap.size, 0, none⟩ = some (.int .u64 (u k.1)) := hB.cell_of rfl
  have q0 : w0.cell? ⟨w.heap.size, 1, none⟩ = some (.int .u64 (u k.2)) := hB.cell_of rfl
  have HU := Lib.hid (show w0.cell? ⟨w.heap.size, 0, none⟩ = some (.int .u64 (u k.1)) ∧ w0.cell? ⟨w.heap.size, 1, none⟩ = some (.int .u64 (u k.2)) from ⟨p0, q0⟩)
  have HF := Lib.hid hF
  have HT := Lib.hid hT
  clear hB hF hT
  refine region_tm [2, 10, 12] [0] [0, 0, 3, 0, 8, 0, 32, 64, 144, 0, 772, 1028, 4095] [8191, 8191, 0, 8191, 8183, 8191, 8159, 8127, 8047, 8191, 0, 7163, 0] [0, 0, 3, 0, 8, 0, 32, 96, 248, 0, 1023, 2047, 4095] 8191 (.quiet 0 (.quiet 1 (.quiet 3 (.quiet 4 (.quiet 5 (.quiet 6 (.quiet 7 (.quiet 8 (.quiet 9 (.alt 2 (.alt 10 (.quiet 11 (.alt 12 (.done) (.fin))) (.fin)) (.fin))))))))))) (fun w' => w'.cell? ⟨w.heap.size, 0, none⟩ = some (.int .u64 (u k.1)) ∧ w'.cell? ⟨w.heap.size, 1, none⟩ = some (.int .u64 (u k.2))) (by as_aux_lemma => kernel_rfl) (by as_aux_lemma => kernel_rfl) (by as_aux_lemma => kernel_rfl) (by as_aux_lemma => kernel_rfl) (by as_aux_lemma => kernel_rfl) (by as_aux_lemma => kernel_rfl) (by as_aux_lemma => kernel_rfl) (by as_aux_lemma => kernel_rfl) (by first | exact box2_set hg2 hbl HU.out | exact box2_kept hg2 hbl HU.out | exact box2_kept hg1 hbl HU.out | exact HU.out) ?_
  repeat' (first
    | (refine t_float (v := ?_) (a' := ?_) rfl rfl rfl ?_ ?_ ?_
       rotate_left 2
       · (intro w' hU; (try dsimp only at hU); go_simp; with_reducible rfl)
       · (simp only [Act.put, List.setIfInBounds_toArray, List.set_cons_zero, List.set_cons_succ]; rfl))
    | (refine t_bound (v := ?_) (a' := ?_) rfl rfl rfl ?_ ?_ ?_
       rotate_left 2
       · (go_simp; with_reducible rfl)
       · (simp only [Act.put, List.setIfInBounds_toArray, List.set_cons_zero, List.set_cons_succ]; rfl))
    | exact t_fin
    | (refine t_acts rfl rfl (fun K hK => ?_) ?_
       go_simp; try (go_wp2_with (first | (go_at_call 33; have hq := hf1; refine (rsum_any (k.2, ~~~k.1) l _ hl).mono ?_; clear hq; rintro e w2 ⟨rfl, hf2⟩; have hg2 := hg1.trans hf2; have hb2 := HT.out.kept hg2 (fun f => f); have c0 : w2.cell? ⟨w.heap.size + 1, 0, none⟩ = some (.int .u64 0) := hb2.cell_of rfl; have c1 : w2.cell? ⟨w.heap.size + 1, 1, none⟩ = some (.int .u64 0) := hb2.cell_of rfl; have f0 := hb2.free 0; have f1 := hb2.free 1) | (go_at_call 33; refine (rsum_any k l _ hl).mono ?_; rintro e w1 ⟨rfl, hf1⟩; have hg1 := (Fr.refl none_ w0).drew.trans hf1)))
       refine hK.out _ _ (by first | exact box2_set hg2 hbl HU.out | exact box2_kept hg2 hbl HU.out | exact box2_kept hg1 hbl HU.out | exact HU.out) ?_
       clear hK K))
  all_goals (refine t_done ?_)
  all_goals
    go_wp2_with fail
    have hb3 := (hb2.setCell 0 (.int .u64 (u (sumW k l)))).setCell 1 (.int .u64 (u (sumW (k.2, ~~~k.1) l)))
    have hF3 : Fr none_ w ((w2.setCell ⟨w.heap.size + 1, 0, none⟩ (.int .u64 (u (sumW k l)))).setCell ⟨w.heap.size + 1, 1, none⟩ (.int .u64 (u (sumW (k.2, ~~~k.1) l)))) := ((HF.out.trans hg2).setCell (fun h => by simp at h; omega) _).setCell (fun h => by simp at h; omega) _
    generalize (w2.setCell ⟨w.heap.size + 1, 0, none⟩ (.int .u64 (u (sumW k l)))).setCell ⟨w.heap.size + 1, 1, none⟩ (.int .u64 (u (sumW (k.2, ~~~k.1) l))) = w3 at *
    have d0 : w3.cell? ⟨w.heap.size + 1, 0, none⟩ = some (.int .u64 (u (sumW k l))) := hb3.cell_of rfl
    have d1 : w3.cell? ⟨w.heap.size + 1, 1, none⟩ = some (.int .u64 (u (sumW (k.2, ~~~k.1) l))) := hb3.cell_of rfl
    exact bodyPost_ret (v := .agg #[.int .u64 (u (sumW k l)), .int .u64 (u (sumW (k.2, ~~~k.1) l))]) (by simp [results, Try.results43, go_sem, d0, d1]) rfl ⟨rfl, hF3⟩

set_option maxRecDepth 100000 in
set_option maxHeartbeats 3200000 in
theorem rtagB_any (t : W × W) (w : World) : Calls Try.prog 44 #[keyv t] w fun e w' => e = .returned (.string (bs (tagB t))) ∧ Fr none_ w w' := by
  unfold keyv
  have hB := Blk.new w #[.int .u64 (u t.1), .int .u64 (u t.2)] 52
  have hF := (Fr.refl none_ w).alloc (.cells #[.int .u64 (u t.1), .int .u64 (u t.2)] 52)
  have hadd : Op.stringOp .add (bs (putB t.1)) (bs (putB t.2)) = pure (.string (bs (putB t.1 ++ putB t.2))) := str_add _ _ (by rw [putB_length, putB_length]; omega)
  go_enter Try.func44, Try.ntmps44
  go_wp2_with fail
  generalize w.alloc (.cells #[.int .u64 (u t.1), .int .u64 (u t.2)] 52) = w0 at *
  have hbl := hB.lt
  have p0 : w0.cell? ⟨w.heap.size, 0, none⟩ = some (.int .u64 (u t.1)) := hB.cell_of rfl
  have HU := Lib.hid (show w0.cell? ⟨w.heap.size, 0, none⟩ = some (.int .u64 (u t.1)) ∧ w0.cell? ⟨w.heap.size, 1, none⟩ = some (.int .u64 (u t.2)) from ⟨hB.cell_of rfl, hB.cell_of rfl⟩)
  have HF := Lib.hid hF
  clear hB hF
  refine region_tm [2, 5] [1] [0, 1, 2, 0, 8, 20, 36, 127] [255, 254, 0, 255, 247, 0, 219, 191] [0, 1, 3, 0, 8, 31, 63, 127] 255 (.quiet 0 (.quiet 1 (.quiet 3 (.quiet 4 (.alt 2 (.alt 5 (.quiet 6 (.quiet 7 .done)) (.fin)) (.fin)))))) (fun w' => w'.cell? ⟨w.heap.size, 0, none⟩ = some (.int .u64 (u t.1)) ∧ w'.cell? ⟨w.heap.size, 1, none⟩ = some (.int .u64 (u t.2))) (by as_aux_lemma => kernel_rfl) (by as_aux_lemma => kernel_rfl) (by as_aux_lemma => kernel_rfl) (by as_aux_lemma => kernel_rfl) (by as_aux_lemma => kernel_rfl) (by as_aux_lemma => kernel_rfl) (by as_aux_lemma => kernel_rfl) (by as_aux_lemma => kernel_rfl) (by first | exact box2_kept hg2 hbl HU.out | exact box2_kept hg1 hbl HU.out | exact HU.out) ?_
  repeat' (first
    | (refine t_float (v := ?_) (a' := ?_) rfl rfl rfl ?_ ?_ ?_
       rotate_left 2
       · (intro w' hU; (try dsimp only at hU); go_simp; with_reducible rfl)
       · (simp only [Act.put, List.setIfInBounds_toArray, List.set_cons_zero, List.set_cons_succ]; rfl))
    | (refine t_bound (v := ?_) (a' := ?_) rfl rfl rfl ?_ ?_ ?_
       rotate_left 2
       · (go_simp; with_reducible rfl)
       · (simp only [Act.put, List.setIfInBounds_toArray, List.set_cons_zero, List.set_cons_succ]; rfl))
    | exact t_fin
    | (refine t_acts rfl rfl (fun K hK => ?_) ?_
       go_simp; try (go_wp2_with (first | (go_at_call 35; have hq := hf1; refine (rput_any t.2 _).mono ?_; clear hq; rintro e w2 ⟨rfl, hf2⟩; have hg2 := hg1.trans hf2) | (go_at_call 35; refine (rput_any t.1 _).mono ?_; rintro e w1 ⟨rfl, hf1⟩; have hg1 := (Fr.refl none_ w0).drew.trans hf1)))
       refine hK.out _ _ (by first | exact box2_kept hg2 hbl HU.out | exact box2_kept hg1 hbl HU.out | exact HU.out) ?_
       clear hK K))
  all_goals (refine t_done ?_)
  all_goals
    go_wp2
    go_ret
    exact ⟨rfl, HF.out.trans hg2⟩

def fromCells (l : List UInt8) (j : Nat) : List Value := [.int .u64 (u (if 0 < j then wordAt l 0 else 0)), .int .u64 (u (if 1 < j then wordAt l 8 else 0))]

set_option maxRecDepth 100000 in
set_option maxHeartbeats 3200000 in
theorem from_ok (v : Value) (l : List UInt8) (w : World) (hv : Rd w v (l.map bv)) (hl : l.length = 16) :
    Calls Try.prog 51 #[v] w fun e w' => e = .returned (.tuple #[keyv (wordAt l 0, wordAt l 8), .int .i64 0]) ∧ Fr none_ w w' := by
  unfold keyv
  have HV := Lib.hid hv
  have HL := Lib.hid hl
  obtain ⟨ao, cap, rfl, hc1, hc2, _⟩ := hv
  rw [List.length_map, hl] at HV hc1
  rw [List.length_map, hl]
  have hB := (Blk.new w #[.int .u64 0, .int .u64 0] 52).alloc (.cells #[.int .u64 0, .int .u64 0] 52)
  have hT := Blk.new (w.alloc (.cells #[.int .u64 0, .int .u64 0] 52)) #[.int .u64 0, .int .u64 0] 52
  rw [World.size_alloc] at hT
  have hF := ((Fr.refl none_ w).alloc (.cells #[.int .u64 0, .int .u64 0] 52)).alloc (.cells #[.int .u64 0, .int .u64 0] 52)
  clear hl
  go_enter Try.func51, Try.ntmps51
  go_wp2_with fail
  generalize (w.alloc (.cells #[.int .u64 0, .int .u64 0] 52)).alloc (.cells #[.int .u64 0, .int .u64 0] 52) = w0 at *
  go_loopw [10] (fun i wr => ∃ j : Nat, j ≤ 2 ∧ i = .int .i64 j ∧ Blk wr (w.heap.size + 1) 52 (fromCells l j) ∧ Blk wr w.heap.size 52 [.int .u64 0, .int .u64 0] ∧ Fr none_ w wr) (fun i _ => 2 - (intOf i).toNat)
  case atStart => exact ⟨0, by omega, rfl, hT, hB, hF⟩
  case round =>
    clear hT hB hF
    obtain ⟨j, hj, rfl, hT, hB, hF⟩ := hrel
    have hV := HV.out.kept hF (fun _ _ _ _ f => f)
    have hl := HL.out
    have H0 := Lib.hid (show Calls Try.prog 30 #[.slice ao 16 cap, .int .i64 0] wr fun e w' => e = .returned (.tuple #[.int .u64 (u (wordAt l 0)), .int .i64 0]) ∧ wr = w' from get_ok _ l 0 wr hV (by omega) (by omega))
    have H8 := Lib.hid (show Calls Try.prog 30 #[.slice ao 16 cap, .int .i64 8] wr fun e w' => e = .returned (.tuple #[.int .u64 (u (wordAt l 8)), .int .i64 0]) ∧ wr = w' from get_ok _ l 8 wr hV (by omega) (by omega))
    have hTl := hT.lt
    clear hl hV
    rcases (show j = 0 ∨ j = 1 ∨ j = 2 by omega) with rfl | rfl | rfl
    · simp only [Int.natCast_zero]
      have c0 : wr.cell? ⟨w.heap.size + 1, 0, none⟩ = some (.int .u64 0) := hT.cell_of rfl
      have f0 := hT.free 0
      go_wp2_with fail
      refine H0.out.mono ?_
      rintro e w1 ⟨rfl, rfl⟩
      go_wp2_with fail
      have hT1 := hT.setCell 0 (.int .u64 (u (wordAt l 0)))
      have hB1 := hB.setCell_other (p := ⟨w.heap.size + 1, 0, none⟩) (by simp) (.int .u64 (u (wordAt l 0)))
      have hF1 := hF.setCell (p := ⟨w.heap.size + 1, 0, none⟩) (fun h => by simp at h; omega) (.int .u64 (u (wordAt l 0)))
      go_roundw
      case rel => exact ⟨1, by omega, rfl, hT1, hB1, hF1⟩
      case measure => simp [intOf]
    · simp only [Int.natCast_one]
      have c0 : wr.cell? ⟨w.heap.size + 1, 1, none⟩ = some (.int .u64 0) := hT.cell_of rfl
      have f0 := hT.free 1
      go_wp2_with fail
      refine H8.out.mono ?_
      rintro e w1 ⟨rfl, rfl⟩
      go_wp2_with fail
      have hT1 := hT.setCell 1 (.int .u64 (u (wordAt l 8)))
      have hB1 := hB.setCell_other (p := ⟨w.heap.size + 1, 1, none⟩) (by simp) (.int .u64 (u (wordAt l 8)))
      have hF1 := hF.setCell (p := ⟨w.heap.size + 1, 1, none⟩) (fun h => by simp at h; omega) (.int .u64 (u (wordAt l 8)))
      go_roundw
      case rel => exact ⟨2, by omega, rfl, hT1, hB1, hF1⟩
      case measure => simp [intOf]
    · simp only [show ((2 : Nat) : Int) = 2 from rfl]
      have c0 : wr.cell? ⟨w.heap.size + 1, 0, none⟩ = some (.int .u64 (u (wordAt l 0))) := hT.cell_of rfl
      have c1 : wr.cell? ⟨w.heap.size + 1, 1, none⟩ = some (.int .u64 (u (wordAt l 8))) := hT.cell_of rfl
      have b0 : wr.cell? ⟨w.heap.size, 0, none⟩ = some (.int .u64 0) := hB.cell_of rfl
      have b1 : wr.cell? ⟨w.heap.size, 1, none⟩ = some (.int .u64 0) := hB.cell_of rfl
      have f0 := hB.free 0
      have f1 := hB.free 1
      go_wp2_with fail
      have hb3 := (hB.setCell 0 (.int .u64 (u (wordAt l 0)))).setCell 1 (.int .u64 (u (wordAt l 8)))
      have hF3 : Fr none_ w ((wr.setCell ⟨w.heap.size, 0, none⟩ (.int .u64 (u (wordAt l 0)))).setCell ⟨w.heap.size, 1, none⟩ (.int .u64 (u (wordAt l 8)))) := (hF.setCell (fun h => by simp at h) _).setCell (fun h => by simp at h) _
      generalize (wr.setCell ⟨w.heap.size, 0, none⟩ (.int .u64 (u (wordAt l 0)))).setCell ⟨w.heap.size, 1, none⟩ (.int .u64 (u (wordAt l 8))) = w3 at *
      have d0 : w3.cell? ⟨w.heap.size, 0, none⟩ = some (.int .u64 (u (wordAt l 0))) := hb3.cell_of rfl
      have d1 : w3.cell? ⟨w.heap.size, 1, none⟩ = some (.int .u64 (u (wordAt l 8))) := hb3.cell_of rfl
      exact bodyPost_ret (v := .tuple #[.agg #[.int .u64 (u (wordAt l 0)), .int .u64 (u (wordAt l 8))], .int .i64 0]) (by simp [results, Try.results51, go_sem, d0, d1]) rfl ⟨rfl, hF3⟩

set_option maxRecDepth 100000 in
set_option maxHeartbeats 3200000 in
theorem from_bad (v : Value) (l : List UInt8) (w : World) (hv : Rd w v (l.map bv)) (hl : l.length ≠ 16) :
    Calls Try.prog 51 #[v] w fun e w' => e = .returned (.tuple #[keyv (0, 0), .int .i64 2]) ∧ Fr none_ w w' := by
  unfold keyv
  rw [show u (0 : W) = 0 from by decide]
  obtain ⟨ao, cap, rfl, hc1, hc2, _⟩ := hv
  rw [List.length_map] at *
  have hB := Blk.new w #[.int .u64 0, .int .u64 0] 52
  have hF := (Fr.refl none_ w).alloc (.cells #[.int .u64 0, .int .u64 0] 52)
  have hne : decide ((l.length : Int) = 16) = false := by simp; omega
  go_enter Try.func51, Try.ntmps51
  go_wp2_with fail
  exact bodyPost_ret (v := .tuple #[.agg #[.int .u64 0, .int .u64 0], .int .i64 2]) (by simp [results, Try.results51, go_sem]) rfl ⟨rfl, hF⟩
end Go.Proofs.Ytandenkoejbloaa
