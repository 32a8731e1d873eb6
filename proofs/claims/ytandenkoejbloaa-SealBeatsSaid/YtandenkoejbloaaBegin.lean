/- Walks of sip.begin and sip.New. -/
import Derived.Test.YtandenkoejbloaaTurn
import Derived.IntWalk
namespace Go.Proofs.Ytandenkoejbloaa
open Go Go.RowKit

def txt : List UInt8 := [115, 111, 109, 101, 112, 115, 101, 117, 100, 111, 114, 97, 110, 100, 111, 109, 108, 121, 103, 101, 110, 101, 114, 97, 116, 101, 100, 98, 121, 116, 101, 115]
def wordTo (k : Nat) : Nat → W
  | 0 => 0
  | i + 1 => (wordTo k i <<< 8) ||| zx (txt.getD (8 * k + i) 0)
def bword (k i j : Nat) : W := if j < k then wordTo j 8 else if j = k then wordTo k i else 0
def bcells (k i : Nat) : List Value := [.int .u64 (u (bword k i 0)), .int .u64 (u (bword k i 1)), .int .u64 (u (bword k i 2)), .int .u64 (u (bword k i 3))]

theorem bset (k i : Nat) (hk : k < 4) (c : UInt8) (hc : c = txt.getD (8 * k + i) 0) : (bcells k i).set k (.int .u64 (u (bword k i k <<< 8 ||| zx c))) = bcells k (i + 1) := by
  subst hc
  match k, hk with
  | 0, _ => simp [bcells, bword, wordTo]
  | 1, _ => simp [bcells, bword, wordTo]
  | 2, _ => simp [bcells, bword, wordTo]
  | 3, _ => simp [bcells, bword, wordTo]
theorem bnext (k : Nat) : bcells k 8 = bcells (k + 1) 0 := by
  have h : ∀ j, bword k 8 j = bword (k + 1) 0 j := by
    intro j
    unfold bword
    by_cases h1 : j < k
    · rw [if_pos h1, if_pos (by omega)]
    · rw [if_neg h1]
      by_cases h2 : j = k
      · rw [if_pos h2, if_pos (by omega), h2]
      · rw [if_neg h2, if_neg (by omega)]
        by_cases h3 : j = k + 1
        · rw [if_pos h3]; rfl
        · rw [if_neg h3]
  unfold bcells; rw [h, h, h, h]
theorem txt_at (j : Nat) (h : j < (ByteArray.mk txt.toArray).size) : (ByteArray.mk txt.toArray)[j] = txt.getD j 0 := by
  have h' : j < txt.length := h
  rw [List.getD_eq_getElem?_getD, List.getElem?_eq_getElem h']
  rfl

set_option maxHeartbeats 1600000 in
theorem begin_any (w : World) :
    Calls Try.prog 88 #[] w fun e w' => e = .returned (.agg #[.int .u64 (u (wordTo 0 8)), .int .u64 (u (wordTo 1 8)), .int .u64 (u (wordTo 2 8)), .int .u64 (u (wordTo 3 8))]) ∧ Fr none_ w w' := by
  go_enter Try.func88, Try.ntmps88
  go_wp2_with fail
  go_loopw [3] (fun i wr => ∃ k : Nat, k ≤ 4 ∧ i = .int .i64 k ∧ Blk wr w.heap.size 24 (bcells k 0) ∧ Fr none_ w wr) (fun i _ => 4 - (intOf i).toNat)
  case atStart => 
    refine ⟨0, Nat.zero_le _, rfl, ?_, (Fr.refl _ _).alloc _⟩
    exact Blk.new _ _ _
  case round =>
    obtain ⟨k, hk, rfl, hb, hf⟩ := hrel
    by_cases hlt : k < 4
    · have hk4 : (k : Int) < 4 := by omega
      have hd : decide ((k : Int) < 4) = true := by simp; omega
      go_wp2_with fail
      obtain ⟨wo, rfl⟩ : ∃ wo : World, wo = wr := ⟨_, rfl⟩
      go_loopw [6] (fun j wr => ∃ i : Nat, i ≤ 8 ∧ j = .int .i64 i ∧ Blk wr w.heap.size 24 (bcells k i) ∧ Fr none_ w wr) (fun i _ => 8 - (intOf i).toNat)
      case atStart => exact ⟨0, Nat.zero_le _, rfl, hb, hf⟩
      case round =>
        clear hb hf
        obtain ⟨i, hi, rfl, hb, hf⟩ := hrel
        by_cases hlt2 : i < 8
        · have c0 : wr.cell? ⟨w.heap.size, k, none⟩ = some (.int .u64 (u (bword k i k))) := hb.cell_of (by match k, hlt with | 0, _ => rfl | 1, _ => rfl | 2, _ => rfl | 3, _ => rfl)
          have f0 := hb.free k
          have e1 : IntKind.i64.wrap (8 * (k : Int)) = 8 * (k : Int) := IntWalk.i64_in _ (by omega)
          have e2 : IntKind.i64.wrap (8 * (k : Int) + (i : Int)) = 8 * (k : Int) + (i : Int) := IntWalk.i64_in _ (by omega)
          have e3 : 0 ≤ 8 * (k : Int) + (i : Int) := by omega
          have e4 : 8 * (k : Int) + (i : Int) < 32 := by omega
          have HB := Lib.hid hb
          have HF := Lib.hid hf
          clear hb hf
          go_wp2_with fail
          refine region_pi [13] [3] [0, 1, 2, 3, 4, 5, 6, 7, 8, 9, 10, 11, 12, 13] (fun _ => True) (by as_aux_lemma => kernel_rfl) (by as_aux_lemma => kernel_rfl) (by as_aux_lemma => kernel_rfl) (by as_aux_lemma => kernel_rfl) (by as_aux_lemma => kernel_rfl) trivial ?_
          repeat (first
            | (refine pi_float (v := ?_) (a' := ?_) rfl rfl rfl rfl ?_ ?_ ?_
               rotate_left 2
               · (intro w' _; go_simp; with_reducible rfl)
               · (simp only [Act.put, List.setIfInBounds_toArray, List.set_cons_zero, List.set_cons_succ]; rfl))
            | (refine pi_bound (v := ?_) (a' := ?_) rfl rfl rfl rfl ?_ ?_ ?_
               rotate_left 2
               · (go_simp; with_reducible rfl)
               · (simp only [Act.put, List.setIfInBounds_toArray, List.set_cons_zero, List.set_cons_succ]; rfl))
            | (refine pi_acts rfl rfl rfl (fun K hK => ?_)
               go_simp
               refine hK.out _ _ trivial ?_
               clear hK K))
          refine pi_done ?_
          go_wp2
          go_roundw
          case rel =>
            refine ⟨i + 1, by omega, by go_num, ?_, (HF.out.setCell (p := ⟨w.heap.size, k, none⟩) (fun h => absurd h (Nat.lt_irrefl _)) _).drew⟩
            refine Eq.subst (motive := fun l => Blk _ _ _ l) (bset k i hlt _ ?_) (HB.out.setCell k _)
            exact txt_at _ _
          case measure => simp [intOf]; omega
        · obtain rfl : i = 8 := by omega
          have HB := Lib.hid hb
          have HF := Lib.hid hf
          clear hb hf
          go_wp2
          go_roundw
          case rel => exact ⟨k + 1, by omega, by go_num, by rw [← bnext]; exact HB.out, HF.out⟩
          case measure => simp [intOf]; omega
    · obtain rfl : k = 4 := by omega
      have c0 : wr.cell? ⟨w.heap.size, 0, none⟩ = some (.int .u64 (u (wordTo 0 8))) := hb.cell_of rfl
      have c1 : wr.cell? ⟨w.heap.size, 1, none⟩ = some (.int .u64 (u (wordTo 1 8))) := hb.cell_of rfl
      have c2 : wr.cell? ⟨w.heap.size, 2, none⟩ = some (.int .u64 (u (wordTo 2 8))) := hb.cell_of rfl
      have c3 : wr.cell? ⟨w.heap.size, 3, none⟩ = some (.int .u64 (u (wordTo 3 8))) := hb.cell_of rfl
      have f0 := hb.free 0
      have f1 := hb.free 1
      have f2 := hb.free 2
      have f3 := hb.free 3
      clear hb
      have HF := Lib.hid hf
      clear hf
      go_wp2
      refine bodyPost_ret (v := .agg #[.int .u64 (u (wordTo 0 8)), .int .u64 (u (wordTo 1 8)), .int .u64 (u (wordTo 2 8)), .int .u64 (u (wordTo 3 8))]) (by simp [results, Try.results88, go_sem, c0, c1, c2, c3]) rfl ⟨rfl, ?_⟩
      have hno : w.heap.size < w.heap.size → none_ w.heap.size := fun h => absurd h (Nat.lt_irrefl _)
      exact ((((HF.out.setCell hno _).setCell hno _).setCell hno _).setCell hno _)

/-- The first words under a key. -/
def startW (k : W × W) : W × W × W × W := (wordTo 0 8 ^^^ k.1, wordTo 1 8 ^^^ k.2, wordTo 2 8 ^^^ k.1, wordTo 3 8 ^^^ k.2)
def keyv (k : W × W) : Value := .agg #[.int .u64 (u k.1), .int .u64 (u k.2)]
def kpart (k : W × W) (i : Nat) : W := if i % 2 = 0 then k.1 else k.2
/-- i of the words are under the key. -/
def newW (k : W × W) (i : Nat) (j : Nat) : W := if j < i then wordTo j 8 ^^^ kpart k j else wordTo j 8
def newS (k : W × W) (i : Nat) : W × W × W × W := (newW k i 0, newW k i 1, newW k i 2, newW k i 3)
theorem nset (k : W × W) (i : Nat) (hi : i < 4) (left : Value) (n : Int) : (hcells (newS k i) left n).set i (.int .u64 (u (newW k i i ^^^ kpart k (i % 2)))) = hcells (newS k (i + 1)) left n := by
  match i, hi with
  | 0, _ => simp [hcells, newS, newW, kpart]
  | 1, _ => simp [hcells, newS, newW, kpart]
  | 2, _ => simp [hcells, newS, newW, kpart]
  | 3, _ => simp [hcells, newS, newW, kpart]

set_option maxHeartbeats 1600000 in
theorem new_any (k : W × W) (w : World) :
    Calls Try.prog 36 #[keyv k] w fun e w' => ∃ b, e = .returned (.pointer (some ⟨b, 0, none⟩)) ∧ w.heap.size ≤ b ∧ Blk w' b 132 (hcells (startW k) (.slice none 0 0) 0) ∧ Fr none_ w w' := by
  unfold keyv
  go_enter Try.func36, Try.ntmps36
  go_wp2_with (go_at_call 88; refine (begin_any _).mono ?_; rintro e w1 ⟨rfl, hf1⟩)
  have hk1 : Blk w1 w.heap.size 56 [.int .u64 (u k.1), .int .u64 (u k.2)] := (Blk.new w _ _).kept hf1 (fun f => f)
  have hz1 : w.heap.size < w1.heap.size := by have := hf1.size; simp at this; omega
  have hF1 : Fr none_ w w1 := ((Fr.refl none_ w).alloc _).trans hf1
  clear hf1
  generalize hB : w1.heap.size = B at *
  have hf0 : w.heap.size < B := hz1
  go_loopw [8] (fun i wr => ∃ j : Nat, j ≤ 4 ∧ i = .int .i64 j ∧ Blk wr B 132 (hcells (newS k j) (.slice none 0 0) 0) ∧ Blk wr w.heap.size 56 [.int .u64 (u k.1), .int .u64 (u k.2)] ∧ Fr none_ w wr) (fun i _ => 4 - (intOf i).toNat)
  case atStart =>
    refine ⟨0, Nat.zero_le _, rfl, ?_, hk1.alloc _, hF1.alloc _⟩
    rw [← hB]
    exact Blk.new _ _ _
  case round =>
    obtain ⟨j, hj, rfl, hb, hkb, hf⟩ := hrel
    clear hk1 hF1 hB hz1
    by_cases hlt : j < 4
    · have hj4 : (j : Int) < 4 := by omega
      have c0 : wr.cell? ⟨B, j, none⟩ = some (.int .u64 (u (newW k j j))) := hb.cell_of (by match j, hlt with | 0, _ => rfl | 1, _ => rfl | 2, _ => rfl | 3, _ => rfl)
      have f0 := hb.free j
      obtain ⟨m, hm1, hm2, hm3⟩ : ∃ m : Nat, (j : Int).tmod 2 = (m : Int) ∧ m < 2 ∧ m = j % 2 := ⟨j % 2, by rw [Int.tmod_eq_emod_of_nonneg (by omega)]; omega, by omega, rfl⟩
      have hm4 : (m : Int) < 2 := by omega
      have cm : wr.cell? ⟨w.heap.size, m, none⟩ = some (.int .u64 (u (kpart k m))) := hkb.cell_of (by match m, hm2 with | 0, _ => rfl | 1, _ => rfl)
      have HM := Lib.hid hm3
      clear hm3
      have HB := Lib.hid hb
      have HK := Lib.hid hkb
      have HF := Lib.hid hf
      clear hb hkb hf
      go_wp2_with fail
      refine region_pi [14] [5, 9] [0, 1, 2, 3, 4, 5, 6, 7, 8, 9, 10, 11, 12, 13, 14] (fun _ => True) (by as_aux_lemma => kernel_rfl) (by as_aux_lemma => kernel_rfl) (by as_aux_lemma => kernel_rfl) (by as_aux_lemma => kernel_rfl) (by as_aux_lemma => kernel_rfl) trivial ?_
      repeat (first
        | (refine pi_float (v := ?_) (a' := ?_) rfl rfl rfl rfl ?_ ?_ ?_
           rotate_left 2
           · (intro w' _; go_simp; with_reducible rfl)
           · (simp only [Act.put, List.setIfInBounds_toArray, List.set_cons_zero, List.set_cons_succ]; rfl))
        | (refine pi_bound (v := ?_) (a' := ?_) rfl rfl rfl rfl ?_ ?_ ?_
           rotate_left 2
           · (go_simp; with_reducible rfl)
           · (simp only [Act.put, List.setIfInBounds_toArray, List.set_cons_zero, List.set_cons_succ]; rfl))
        | (refine pi_acts rfl rfl rfl (fun K hK => ?_)
           go_simp
           refine hK.out _ _ trivial ?_
           clear hK K))
      refine pi_done ?_
      go_wp2
      go_roundw
      case rel =>
        refine ⟨j + 1, by omega, by go_num, ?_, (HK.out.setCell_other (p := ⟨B, j, none⟩) (fun h => absurd h (Nat.ne_of_gt hf0)) _).drew, (HF.out.setCell (p := ⟨B, j, none⟩) (fun h => absurd h (Nat.not_lt.2 (Nat.le_of_lt hf0))) _).drew⟩
        rw [← nset k j hlt, ← HM.out]
        exact (HB.out.setCell j _).drew
      case measure => simp [intOf]; omega
    · obtain rfl : j = 4 := by omega
      go_wp2
      go_ret
      exact ⟨B, rfl, Nat.le_of_lt hf0, hb, hf⟩
end Go.Proofs.Ytandenkoejbloaa
