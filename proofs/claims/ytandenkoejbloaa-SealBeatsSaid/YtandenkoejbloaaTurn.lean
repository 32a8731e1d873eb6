/- Walks of sip.Hash.take and turn. -/
import Derived.Test.YtandenkoejbloaaRound
import Derived.Test.YtandenkoejbloaaReg
import Derived.Test.YtandenkoejbloaaMem
import Derived.Lib.Hide
import Derived.RegionTactic
import Derived.BigRegion
namespace Go.Proofs.Ytandenkoejbloaa
open Go Go.RowKit

/-- The cells of a hash: four words, what is left, how much there was. -/
def hcells (s : W × W × W × W) (left : Value) (n : Int) : List Value := [.int .u64 (u s.1), .int .u64 (u s.2.1), .int .u64 (u s.2.2.1), .int .u64 (u s.2.2.2), left, .int .i64 n]
def rounds : Nat → W × W × W × W → W × W × W × W
  | 0, s => s
  | k + 1, s => rounds k (round s)
theorem rounds_succ' (k : Nat) (s : W × W × W × W) : rounds (k + 1) s = round (rounds k s) := by
  induction k generalizing s with
  | zero => rfl
  | succ k ih => rw [rounds, ih]; rfl

theorem hset0 (s : W × W × W × W) (left : Value) (n : Int) (t : W × W × W × W) :
    (((((hcells s left n).set 0 (.int .u64 (u t.1))).set 1 (.int .u64 (u t.2.1))).set 2 (.int .u64 (u t.2.2.1))).set 3 (.int .u64 (u t.2.2.2))) = hcells t left n := rfl

set_option maxHeartbeats 1600000 in
theorem turn_any (b : Nat) (s : W × W × W × W) (left : Value) (n0 : Int) (n : Int) (w : World) (h : Blk w b 132 (hcells s left n0)) (hn0 : 0 ≤ n) (hn1 : n ≤ 1000) :
    Calls Try.prog 90 #[.pointer (some ⟨b, 0, none⟩), .int .i64 n] w fun e w' => e = .returned (.tuple #[]) ∧ Blk w' b 132 (hcells (rounds n.toNat s) left n0) ∧ Fr (fun k => k = b) w w' := by
  obtain ⟨n, rfl⟩ := Int.eq_ofNat_of_zero_le hn0
  rw [Int.toNat_natCast]
  go_enter Try.func90, Try.ntmps90
  go_wp2_with fail
  go_loopw [5] (fun i wr => ∃ k : Nat, k ≤ n ∧ i = .int .i64 k ∧ Blk wr b 132 (hcells (rounds k s) left n0) ∧ Fr (fun k => k = b) w wr) (fun i _ => n - (intOf i).toNat)
  case atStart => exact ⟨0, Nat.zero_le _, rfl, h, Fr.refl _ _⟩
  case round =>
    obtain ⟨k, hk, rfl, hb, hf⟩ := hrel
    generalize hs1 : rounds k s = s1 at hb
    by_cases hlt : k < n
    · have c0 : wr.cell? ⟨b, 0, none⟩ = some (.int .u64 (u s1.1)) := hb.cell_of rfl
      have c1 : wr.cell? ⟨b, 1, none⟩ = some (.int .u64 (u s1.2.1)) := hb.cell_of rfl
      have c2 : wr.cell? ⟨b, 2, none⟩ = some (.int .u64 (u s1.2.2.1)) := hb.cell_of rfl
      have c3 : wr.cell? ⟨b, 3, none⟩ = some (.int .u64 (u s1.2.2.2)) := hb.cell_of rfl
      have f0 := hb.free 0
      have f1 := hb.free 1
      have f2 := hb.free 2
      have f3 := hb.free 3
      have HB := Lib.hid hb
      have HS := Lib.hid hs1
      have HF := Lib.hid hf
      clear hb hs1 hf h
      go_wp2_with fail
      refine region_pi [24, 33, 37, 41, 45] [8, 13, 18, 23] [0, 1, 2, 3, 4, 5, 6, 7, 8, 9, 10, 11, 12, 13, 14, 15, 16, 17, 18, 19, 20, 21, 22, 23, 30, 31, 34, 35, 38, 39, 42, 43, 24, 25, 26, 27, 28, 29, 32, 33, 36, 37, 40, 41, 44, 45] (fun _ => True) (by as_aux_lemma => kernel_rfl) (by as_aux_lemma => kernel_rfl) (by as_aux_lemma => kernel_rfl) (by as_aux_lemma => kernel_rfl) (by as_aux_lemma => kernel_rfl) trivial ?_
      repeat (first
        | (refine pi_float (v := ?_) (a' := ?_) rfl rfl rfl rfl ?_ ?_ ?_
           rotate_left 2
           · (intro w' _; go_simp; with_reducible rfl)
           · (simp only [Act.put, List.setIfInBounds_toArray, List.set_cons_zero, List.set_cons_succ]; rfl))
        | (refine pi_bound (v := ?_) (a' := ?_) rfl rfl rfl rfl ?_ ?_ ?_
           rotate_left 2
           · (go_simp; with_reducible rfl)
           · (simp only [Act.put, List.setIfInBounds_toArray, List.set_cons_zero, List.set_cons_succ]; rfl))
        | (refine pi_acts rfl rfl rfl (fun K hK => ?_)
           go_simp; try (go_wp2_with (go_at_call 28; refine (round_any _ _ _ _ _).mono ?_; rintro e w' ⟨rfl, rfl⟩))
           refine hK.out _ _ trivial ?_
           clear hK K))
      refine pi_done ?_
      go_wp2
      go_roundw
      case rel =>
        refine ⟨k + 1, by omega, by go_num, ?_, ?_⟩
        · rw [rounds_succ', HS.out]
          exact ((((HB.out.setCell 0 _).setCell 1 _).setCell 2 _).setCell 3 _).drew
        · exact ((((HF.out.setCell (fun _ => rfl) _).setCell (fun _ => rfl) _).setCell (fun _ => rfl) _).setCell (fun _ => rfl) _).drew
      case measure => simp [intOf]; omega
    · obtain rfl : k = n := by omega
      go_wp2
      go_end0
      refine ⟨rfl, by rw [hs1]; exact hb, hf⟩

def takeW (s : W × W × W × W) (m : W) : W × W × W × W :=
  let t := rounds 2 (s.1, s.2.1, s.2.2.1, s.2.2.2 ^^^ m)
  (t.1 ^^^ m, t.2)

set_option maxHeartbeats 1600000 in
theorem take_any (b : Nat) (s : W × W × W × W) (left : Value) (n0 : Int) (m : W) (w : World) (h : Blk w b 132 (hcells s left n0)) :
    Calls Try.prog 89 #[.pointer (some ⟨b, 0, none⟩), .int .u64 (u m)] w fun e w' => e = .returned (.tuple #[]) ∧ Blk w' b 132 (hcells (takeW s m) left n0) ∧ Fr (fun k => k = b) w w' := by
  have c3 : w.cell? ⟨b, 3, none⟩ = some (.int .u64 (u s.2.2.2)) := h.cell_of rfl
  have f3 := h.free 3
  have h1 : Blk (w.setCell ⟨b, 3, none⟩ (.int .u64 (u (s.2.2.2 ^^^ m)))).drew b 132 (hcells (s.1, s.2.1, s.2.2.1, s.2.2.2 ^^^ m) left n0) := h.setCell 3 _
  have H1 := Lib.hid h1
  have F1 := Lib.hid (((Fr.refl (fun k => k = b) w).setCell (p := ⟨b, 3, none⟩) (fun _ => rfl) (.int .u64 (u (s.2.2.2 ^^^ m)))).drew)
  clear h h1
  go_enter Try.func89, Try.ntmps89
  go_wp2_with fail
  refine region_pi [10] [4] [0, 1, 2, 3, 4, 5, 6, 7, 8, 9, 10] (fun _ => True) (by as_aux_lemma => kernel_rfl) (by as_aux_lemma => kernel_rfl) (by as_aux_lemma => kernel_rfl) (by as_aux_lemma => kernel_rfl) (by as_aux_lemma => kernel_rfl) trivial ?_
  repeat (first
    | (refine pi_float (v := ?_) (a' := ?_) rfl rfl rfl rfl ?_ ?_ ?_
       rotate_left 2
       · (intro w' _; go_simp; with_reducible rfl)
       · (simp only [Act.put, List.setIfInBounds_toArray, List.set_cons_zero, List.set_cons_succ]; rfl))
    | (refine pi_bound (v := ?_) (a' := ?_) rfl rfl rfl rfl ?_ ?_ ?_
       rotate_left 2
       · (go_simp; with_reducible rfl)
       · (simp only [Act.put, List.setIfInBounds_toArray, List.set_cons_zero, List.set_cons_succ]; rfl))
    | (refine pi_acts rfl rfl rfl (fun K hK => ?_)
       go_simp
       refine hK.out _ _ trivial ?_
       clear hK K))
  refine pi_done ?_
  go_wp2_with fail
  refine (turn_any b _ left n0 2 _ H1.out (by decide) (by decide)).mono ?_
  rintro e w1 ⟨rfl, h2, hf2⟩
  have c0 : w1.cell? ⟨b, 0, none⟩ = some (.int .u64 (u (rounds 2 (s.1, s.2.1, s.2.2.1, s.2.2.2 ^^^ m)).1)) := h2.cell_of rfl
  have f0 := h2.free 0
  have H2 := Lib.hid h2
  have F2 := Lib.hid (F1.out.trans hf2)
  clear h2 hf2 c3 f3
  go_wp2_with fail
  refine region_pi [10] [4] [0, 1, 2, 3, 4, 5, 6, 7, 8, 9, 10] (fun _ => True) (by as_aux_lemma => kernel_rfl) (by as_aux_lemma => kernel_rfl) (by as_aux_lemma => kernel_rfl) (by as_aux_lemma => kernel_rfl) (by as_aux_lemma => kernel_rfl) trivial ?_
  repeat (first
    | (refine pi_float (v := ?_) (a' := ?_) rfl rfl rfl rfl ?_ ?_ ?_
       rotate_left 2
       · (intro w' _; go_simp; with_reducible rfl)
       · (simp only [Act.put, List.setIfInBounds_toArray, List.set_cons_zero, List.set_cons_succ]; rfl))
    | (refine pi_bound (v := ?_) (a' := ?_) rfl rfl rfl rfl ?_ ?_ ?_
       rotate_left 2
       · (go_simp; with_reducible rfl)
       · (simp only [Act.put, List.setIfInBounds_toArray, List.set_cons_zero, List.set_cons_succ]; rfl))
    | (refine pi_acts rfl rfl rfl (fun K hK => ?_)
       go_simp
       refine hK.out _ _ trivial ?_
       clear hK K))
  refine pi_done ?_
  go_wp2_with fail
  go_end0
  refine ⟨rfl, H2.out.setCell 0 _, ?_⟩
  exact (F2.out.setCell (fun _ => rfl) _).drew
end Go.Proofs.Ytandenkoejbloaa
