/- Walk of sip.Hash.Sum, and of sip.Sum. -/
import Derived.Test.YtandenkoejbloaaWrite
import Derived.Deep.DeepMust
namespace Go.Proofs.Ytandenkoejbloaa
open Go Go.RowKit

/-- What is asked of the words, of what is left, and of how much there was. -/
def finW (s : W × W × W × W) (lv : List UInt8) (n : Nat) : W :=
  let t := takeW s (wordAt (lv ++ List.replicate (7 - lv.length) 0 ++ [UInt8.ofNat n]) 0)
  let r := rounds 4 (t.1, t.2.1, t.2.2.1 ^^^ 255, t.2.2.2)
  r.1 ^^^ r.2.1 ^^^ r.2.2.1 ^^^ r.2.2.2
theorem u_xor255 (x : W) : bits .xor .u64 (u x) 255 = u (x ^^^ 255) := u_bits_xor x 255
attribute [go_sem] u_xor255

set_option maxHeartbeats 1600000 in
theorem hsum_any (b : Nat) (s : W × W × W × W) (left : Value) (lv : List UInt8) (n0 : Nat) (w : World) (h : Blk w b 132 (hcells s left n0)) (ho : Rd w left (lv.map bv)) (hlv : lv.length < 8) :
    Calls Try.prog 38 #[.pointer (some ⟨b, 0, none⟩)] w fun e w' => e = .returned (.int .u64 (u (finW s lv n0))) ∧ Fr none_ w w' := by
  obtain ⟨i0, hi, hz0, hz1, hz2⟩ := info_parts info_u8
  have ho0 := ho
  obtain ⟨ao, cap, rfl, hc1, hc2, _⟩ := ho
  rw [List.length_map] at *
  unfold maxLen at hc2
  have c0 : w.cell? ⟨b, 0, none⟩ = some (.int .u64 (u s.1)) := h.cell_of rfl
  have c1 : w.cell? ⟨b, 1, none⟩ = some (.int .u64 (u s.2.1)) := h.cell_of rfl
  have c2 : w.cell? ⟨b, 2, none⟩ = some (.int .u64 (u s.2.2.1)) := h.cell_of rfl
  have c3 : w.cell? ⟨b, 3, none⟩ = some (.int .u64 (u s.2.2.2)) := h.cell_of rfl
  have c4 : w.cell? ⟨b, 4, none⟩ = some (.slice ao lv.length cap) := h.cell_of rfl
  have HB := Lib.hid h
  have HR := Lib.hid ho0
  have hbw := h.lt
  clear h ho0
  go_enter Try.func38, Try.ntmps38
  go_wp2_with fail
  have hw1 : w.heap.size + 1 = (w.alloc (Obj.cells #[.int .u64 (u s.1), .int .u64 (u s.2.1), .int .u64 (u s.2.2.1), .int .u64 (u s.2.2.2), .slice none 0 0, .int .i64 0] 132)).heap.size := by simp
  have HX1 : Blk (w.alloc (Obj.cells #[.int .u64 (u s.1), .int .u64 (u s.2.1), .int .u64 (u s.2.2.1), .int .u64 (u s.2.2.2), .slice none 0 0, .int .i64 0] 132)) w.heap.size 132 (hcells s (.slice none 0 0) 0) := Blk.new _ _ _
  have HB1 := HB.out.alloc (Obj.cells #[.int .u64 (u s.1), .int .u64 (u s.2.1), .int .u64 (u s.2.2.1), .int .u64 (u s.2.2.2), .slice none 0 0, .int .i64 0] 132)
  have HR1 := HR.out.alloc (Obj.cells #[.int .u64 (u s.1), .int .u64 (u s.2.1), .int .u64 (u s.2.2.1), .int .u64 (u s.2.2.2), .slice none 0 0, .int .i64 0] 132)
  have HF1 := (Fr.refl none_ w).alloc (Obj.cells #[.int .u64 (u s.1), .int .u64 (u s.2.1), .int .u64 (u s.2.2.1), .int .u64 (u s.2.2.2), .slice none 0 0, .int .i64 0] 132)
  generalize (w.alloc (Obj.cells #[.int .u64 (u s.1), .int .u64 (u s.2.1), .int .u64 (u s.2.2.1), .int .u64 (u s.2.2.2), .slice none 0 0, .int .i64 0] 132)) = W1 at *
  clear HB HR c0 c1 c2 c3 c4
  have c4 : W1.cell? ⟨b, 4, none⟩ = some (.slice ao lv.length cap) := HB1.cell_of rfl
  have HB2 := Lib.hid HB1
  have HR2 := Lib.hid HR1
  have HX2 := Lib.hid HX1
  have HF2 := Lib.hid HF1
  have HC4 := Lib.hid c4
  clear HB1 HR1 HX1 HF1
  have hbs : b < W1.heap.size := by omega
  have HS1 := Lib.hid hw1
  clear hw1
  have e7 : IntKind.i64.wrap (7 - (lv.length : Int)) = 7 - (lv.length : Int) := IntWalk.i64_in _ (by omega)
  refine region_pi [4, 11] [3] [0, 1, 2, 3, 5, 6, 7, 8, 9, 10, 4, 11, 12] (fun w' => w'.cell? ⟨b, 4, none⟩ = some (.slice ao lv.length cap)) (by as_aux_lemma => kernel_rfl) (by as_aux_lemma => kernel_rfl) (by as_aux_lemma => kernel_rfl) (by as_aux_lemma => kernel_rfl) (by as_aux_lemma => kernel_rfl) (by first | exact HC4.out | exact (hf1.cell (p := ⟨b, 4, none⟩) hbs (fun h => by cases h)).trans HC4.out | exact (hf2.cell (p := ⟨b, 4, none⟩) (Nat.lt_of_lt_of_le hbs hf1.size) (fun h => absurd (ho1.blk _ h).1 (Nat.not_le.2 hbs))).trans ((hf1.cell (p := ⟨b, 4, none⟩) hbs (fun h => by cases h)).trans HC4.out)) ?_
  repeat (first
    | (refine pi_float (v := ?_) (a' := ?_) rfl rfl rfl rfl ?_ ?_ ?_
       rotate_left 2
       · (intro w' hU; (try dsimp only at hU); go_simp; with_reducible rfl)
       · (simp only [Act.put, List.setIfInBounds_toArray, List.set_cons_zero, List.set_cons_succ]; rfl))
    | (refine pi_bound (v := ?_) (a' := ?_) rfl rfl rfl rfl ?_ ?_ ?_
       rotate_left 2
       · (go_simp; with_reducible rfl)
       · (simp only [Act.put, List.setIfInBounds_toArray, List.set_cons_zero, List.set_cons_succ]; rfl))
    | (refine pi_acts rfl rfl rfl (fun K hK => ?_)
       first | ((first | (refine wp_append_b _ _ _ 25 25 rfl W1.heap.size 5 i0 (.int .u8 0) 1 hz2 rfl (.slice none 0 0) [] rfl (Own.nil _ _ _) _ rfl lv.length (lv.map bv) (fun ty => appends_src _ _ ty _ i0 _ Try.underlying25 hi hz0 hz1 _ _ _ (by have := src_of_rd (P := Try.prog) Try.underlying25 HR2.out.drew (bvs_one lv); rw [List.length_map] at this; exact this)) (by simp [maxLen]; omega) (by simp; omega) (Nat.le_refl _) (fun v1 w1 ho1 hf1 hk1 => ?_); rw [List.nil_append] at ho1; replace hf1 := (Fr.refl _ W1).drew.trans hf1) | (refine wp_append_b _ _ _ 25 3 rfl W1.heap.size 5 i0 (.int .u8 0) 1 hz2 rfl v1 (lv.map bv) rfl ho1 _ rfl (7 - lv.length) _ (fun ty => appends_zeros _ _ ty _ .i64 i0 (.int .u8 0) Try.underlying25 Try.underlying3 hi hz0 hz1 rfl rfl .i64 _ (7 - lv.length) (by omega) (by rw [hz2]; omega) (by omega)) (by simp [maxLen]; omega) (by simp; omega) (by have := hf1.size; simpa using this) (fun v2 w2 ho2 hf2 hk2 => ?_))); simp only [Act.put, List.setIfInBounds_toArray, List.set_cons_zero, List.set_cons_succ]) | (go_simp)
       refine hK.out _ _ (by first | exact HC4.out | exact (hf1.cell (p := ⟨b, 4, none⟩) hbs (fun h => by cases h)).trans HC4.out | exact (hf2.cell (p := ⟨b, 4, none⟩) (Nat.lt_of_lt_of_le hbs hf1.size) (fun h => absurd (ho1.blk _ h).1 (Nat.not_le.2 hbs))).trans ((hf1.cell (p := ⟨b, 4, none⟩) hbs (fun h => by cases h)).trans HC4.out)) ?_
       clear hK K))
  refine pi_done ?_
  have h8 := HS1.out
  have hB2 := (HB2.out.kept hf1 (fun h => by cases h)).kept hf2 (fun h => absurd (ho1.blk _ h).1 (Nat.not_le.2 hbs))
  have hX2 := (HX2.out.kept hf1 (fun h => by cases h)).kept hf2 (fun h => absurd (ho1.blk _ h).1 (by omega))
  have hF2 : Fr none_ w w2 := (HF2.out.step hf1 (fun i _ h => by cases h)).step hf2 (fun i hi h => absurd (ho1.blk _ h).1 (by omega))
  have hs2 : W1.heap.size ≤ w2.heap.size := Nat.le_trans (by have := hf1.size; simpa using this) hf2.size
  have hrep : List.map bv lv ++ List.replicate (7 - lv.length) (Value.int IntKind.u8 0) = (lv ++ List.replicate (7 - lv.length) 0).map bv := by
    rw [List.map_append, List.map_replicate]; rfl
  rw [hrep] at ho2
  obtain ⟨ao2, cap2, rfl, hca, hcb⟩ := ho2.shape
  have hlen : (lv ++ List.replicate (7 - lv.length) (0 : UInt8)).length = 7 := by simp; omega
  rw [List.length_map, hlen] at ho2 hca hk2 ⊢
  unfold maxLen at hcb
  generalize hpd : lv ++ List.replicate (7 - lv.length) (0 : UInt8) = pd at *
  have HPD := Lib.hid hpd
  have HPL := Lib.hid hlen
  have c5 : w2.cell? ⟨b, 5, none⟩ = some (.int .i64 n0) := hB2.cell_of rfl
  have HX3 := Lib.hid hX2
  have HF3 := Lib.hid hF2
  have HO3 := Lib.hid ho2
  have e8 := v8_ofNat n0
  clear hB2 hX2 hF2 ho2 hrep hlen hpd ho1 hf1 hk1 hf2 hk2 HC4 HB2 HR2 HX2 HF2 c4 h8 e7 hc1 hc2
  go_wp2_with (first | (at_builtin; go_must (refine wpList_append_b _ rfl _ _ 25 25 rfl W1.heap.size 5 i0 (.int .u8 0) 1 Try.underlying25 hi hz0 hz1 hz2 rfl (.slice ao2 7 cap2) _ rfl (HO3.out.alloc _) (.slice (some ⟨w2.heap.size, 0, none⟩) 1 1) rfl 1 [bv (UInt8.ofNat n0)] ?c1 ?c2 ?c3 ?c4 ?c5)))
  case c1 => exact src_of_rd Try.underlying25 (rd_made w2 [bv (UInt8.ofNat n0)] 5 (by show 1 ≤ maxLen; decide)) (bvs_one [UInt8.ofNat n0])
  case c2 => rw [List.length_map, HPL.out]; simp [maxLen]
  case c3 => rw [List.length_map, HPL.out]; decide
  case c4 => simp; omega
  intro v' w4 hown4 hfr4 hblk4
  rw [show List.map bv pd ++ [bv (UInt8.ofNat n0)] = (pd ++ [UInt8.ofNat n0]).map bv from by rw [List.map_append]; rfl] at hown4
  have hne : ∀ k, k ≤ w.heap.size → (Value.slice ao2 7 cap2).ownBlock ≠ some k := fun k hk h => by have := (HO3.out.blk _ h).1; have := HS1.out; omega
  have hX4 := (HX3.out.alloc (Obj.cells #[bv (UInt8.ofNat n0)] 5)).kept hfr4 (hne _ (Nat.le_refl _))
  have hF4 : Fr none_ w w4 := (HF3.out.alloc (Obj.cells #[bv (UInt8.ofNat n0)] 5)).step hfr4 (fun i hi h => absurd h (hne i (Nat.le_of_lt hi)))
  have HX4 := Lib.hid hX4
  have HF4 := Lib.hid hF4
  have HR4 := Lib.hid hown4.rd
  have HPD2 := Lib.hid (show (pd ++ [UInt8.ofNat n0]).length = 8 from by rw [List.length_append, HPL.out]; rfl)
  clear hX4 hF4 hown4 hfr4 hblk4 hne c5 e8
  go_wp2_with (go_at_call 30; refine (get_ok _ (pd ++ [UInt8.ofNat n0]) 0 _ HR4.out (by decide) (by rw [HPD2.out]; decide)).mono ?_; rintro e w' ⟨rfl, rfl⟩)
  refine (take_any w.heap.size s _ 0 _ _ HX4.out).mono ?_
  rintro e w5 ⟨rfl, hx5, hf5⟩
  generalize ht : takeW s (wordAt (pd ++ [UInt8.ofNat n0]) 0) = t at hx5
  have c2 : w5.cell? ⟨w.heap.size, 2, none⟩ = some (.int .u64 (u t.2.2.1)) := hx5.cell_of rfl
  have f2 := hx5.free 2
  have HX5 := Lib.hid (show Blk (w5.setCell ⟨w.heap.size, 2, none⟩ (.int .u64 (u (t.2.2.1 ^^^ 255)))) _ _ (hcells (t.1, t.2.1, t.2.2.1 ^^^ 255, t.2.2.2) (.slice none 0 0) 0) from hx5.setCell 2 _)
  have HF5 := Lib.hid (((HF4.out.step hf5 (fun i hi h => absurd (h ▸ hi) (Nat.lt_irrefl _)))).setCell (p := ⟨w.heap.size, 2, none⟩) (fun h => absurd h (Nat.lt_irrefl _)) (.int .u64 (u (t.2.2.1 ^^^ 255))))
  have HT := Lib.hid ht
  clear ht hx5 hf5
  go_wp2_with fail
  refine (turn_any w.heap.size _ _ 0 4 _ HX5.out (by decide) (by decide)).mono ?_
  rintro e w6 ⟨rfl, hx6, hf6⟩
  generalize hr : rounds (Int.toNat 4) (t.1, t.2.1, t.2.2.1 ^^^ 255, t.2.2.2) = r at hx6
  have c0 : w6.cell? ⟨w.heap.size, 0, none⟩ = some (.int .u64 (u r.1)) := hx6.cell_of rfl
  have c1 : w6.cell? ⟨w.heap.size, 1, none⟩ = some (.int .u64 (u r.2.1)) := hx6.cell_of rfl
  have c2 : w6.cell? ⟨w.heap.size, 2, none⟩ = some (.int .u64 (u r.2.2.1)) := hx6.cell_of rfl
  have c3 : w6.cell? ⟨w.heap.size, 3, none⟩ = some (.int .u64 (u r.2.2.2)) := hx6.cell_of rfl
  have HR6 := Lib.hid hr
  have HF6 := Lib.hid (HF5.out.step hf6 (fun i hi h => absurd (h ▸ hi) (Nat.lt_irrefl _)))
  clear hr hx6 hf6
  go_wp2_with fail
  go_ret
  refine ⟨ret_int ?_, HF6.out⟩
  unfold finW
  simp only [HPD.out, HT.out]
  have h4 := HR6.out
  rw [show Int.toNat 4 = 4 from rfl] at h4
  rw [h4]
end Go.Proofs.Ytandenkoejbloaa
