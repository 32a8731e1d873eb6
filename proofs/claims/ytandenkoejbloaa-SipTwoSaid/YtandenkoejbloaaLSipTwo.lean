/- For every input the law quorumitelaw1.SipTwo returns true: two hashes of one key go their own ways. Conditions: none. -/
import Derived.Test.YtandenkoejbloaaRegM
import Derived.Test.YtandenkoejbloaaFacts
import Derived.Test.YtandenkoejbloaaHash
namespace Go.Proofs.Ytandenkoejbloaa
open Go Go.RowKit

set_option maxRecDepth 100000 in
set_option maxHeartbeats 30000000 in
theorem walk_SipTwo (w : World) (k : W × W) (v1 : Value) (a : List UInt8) (h1 : Rd w v1 (a.map bv)) (v2 : Value) (c : List UInt8) (h2 : Rd w v2 (c.map bv)) :
    Calls Try.prog 8 #[.agg #[.int .u64 (u k.1), .int .u64 (u k.2)], v1, v2] w fun e w' => e = .returned (.bool true) ∧ Fr none_ w w' := by
  obtain ⟨i0, hi, hz0, hz1, hz2⟩ := info_parts info_u8
  have HA := Lib.hid h1
  have HC := Lib.hid h2
  obtain ⟨ao1, cap1, rfl, hc1, hm1, _⟩ := h1
  obtain ⟨ao2, cap2, rfl, hc2, hm2, _⟩ := h2
  simp only [List.length_map] at *
  unfold maxLen at hm1 hm2
  have hB := Blk.new w #[.int .u64 (u k.1), .int .u64 (u k.2)] 23
  have HU := Lib.hid (show (w.alloc (.cells #[.int .u64 (u k.1), .int .u64 (u k.2)] 23)).cell? ⟨w.heap.size, 0, none⟩ = some (.int .u64 (u k.1)) ∧ (w.alloc (.cells #[.int .u64 (u k.1), .int .u64 (u k.2)] 23)).cell? ⟨w.heap.size, 1, none⟩ = some (.int .u64 (u k.2)) from ⟨hB.cell_of rfl, hB.cell_of rfl⟩)
  have hbl := hB.lt
  have HF := Lib.hid ((Fr.refl none_ w).alloc (.cells #[.int .u64 (u k.1), .int .u64 (u k.2)] 23))
  clear hB
  go_enter Try.func8, Try.ntmps8
  go_wp2_with fail
  refine region_pi [1, 3] [0] [0, 2, 1, 3, 4, 5] (fun w' => w'.cell? ⟨w.heap.size, 0, none⟩ = some (.int .u64 (u k.1)) ∧ w'.cell? ⟨w.heap.size, 1, none⟩ = some (.int .u64 (u k.2))) (by as_aux_lemma => kernel_rfl) (by as_aux_lemma => kernel_rfl) (by as_aux_lemma => kernel_rfl) (by as_aux_lemma => kernel_rfl) (by as_aux_lemma => kernel_rfl) (by first | exact HU.out | exact box2_kept hf2 (Nat.lt_of_lt_of_le hbl hf1.size) (box2_kept hf1 hbl HU.out) | exact box2_kept hf1 hbl HU.out) ?_
  repeat (first
    | (refine pi_float (v := ?_) (a' := ?_) rfl rfl rfl rfl ?_ ?_ ?_
       rotate_left 2
       · (intro w' hU; (try dsimp only at hU); go_simp; with_reducible rfl)
       · (simp only [Act.put, List.setIfInBounds_toArray, List.set_cons_zero, List.set_cons_succ]; rfl))
    | (refine pi_bound (v := ?_) (a' := ?_) rfl rfl rfl rfl ?_ ?_ ?_
       rotate_left 2
       · (go_simp; with_reducible rfl)
       · (simp only [Act.put, List.setIfInBounds_toArray, List.set_cons_zero, List.set_cons_succ]; rfl))
    | (refine pi_acts rfl rfl rfl (fun K hK => ?_)
       go_simp; try (go_wp2_with (first | (go_at_call 36; refine (hnew_any k _).mono ?_; first | (have := b1; rintro e w2 ⟨b2, rfl, hs2, hb2, hx2, hf2⟩) | (rintro e w1 ⟨b1, rfl, hs1, hb1, hx1, hf1⟩))))
       refine hK.out _ _ (by first | exact HU.out | exact box2_kept hf2 (Nat.lt_of_lt_of_le hbl hf1.size) (box2_kept hf1 hbl HU.out) | exact box2_kept hf1 hbl HU.out) ?_
       clear hK K))
  refine pi_done ?_
  have hw2 : w.heap.size < b1 ∧ b1 < b2 ∧ b2 < w2.heap.size := by
    have q1 : w.heap.size + 1 ≤ b1 := by simpa using hs1
    exact ⟨q1, Nat.lt_of_lt_of_le hb1 hs2, hb2⟩
  have HF2 := Lib.hid ((HF.out.drew.trans hf1).trans hf2)
  have HX := Lib.hid ((hx1 w.heap.size).same hf2)
  have HY := Lib.hid (hx2 w.heap.size)
  have HU2 := Lib.hid (box2_kept hf2 (Nat.lt_of_lt_of_le hbl hf1.size) (box2_kept hf1 hbl HU.out))
  have HW := Lib.hid hw2
  have hsz2 := HF2.out.size
  clear hf1 hf2 hx1 hx2 hs1 hs2 hb1 hb2 hw2 HU HF hbl
  by_cases hl1 : 100 < a.length
  · have hd : decide ((100 : Int) < (a.length : Int)) = true := by simp; omega
    go_wp2_with fail
    refine (told1_any _).mono ?_
    rintro e w3 ⟨rfl, hf⟩
    go_wp2
    go_ret
    exact ⟨rfl, HF2.out.trans hf⟩
  have hd : decide ((100 : Int) < (a.length : Int)) = false := by simp; omega
  by_cases hl2 : 100 < c.length
  · have he : decide ((100 : Int) < (c.length : Int)) = true := by simp; omega
    go_wp2_with fail
    refine (told1_any _).mono ?_
    rintro e w3 ⟨rfl, hf⟩
    go_wp2
    go_ret
    exact ⟨rfl, HF2.out.trans hf⟩
  have he : decide ((100 : Int) < (c.length : Int)) = false := by simp; omega
  go_wp2_with fail
  have q1 : a ≠ [] → (Value.slice ao1 a.length cap1).ownBlock ≠ some b1 := fun hne h => by
    have q2 := HA.out.lt (fun e => hne (List.map_eq_nil_iff.1 e)) b1 h
    have := HW.out; omega
  refine (hwrite_any b1 k _ [] _ a w.heap.size w2 HX.out hsz2 (HA.out.kept HF2.out (fun _ _ _ _ f => f)) q1 (by simp; omega)).mono ?_
  rintro e w3 ⟨rfl, left1, hx3, hk1, hf3⟩
  have g3 : Fr none_ w w3 := HF2.out.step hf3 (fun i hi h => by have := HW.out; exact h.elim (fun h => by omega) (fun h => by cases h))
  have HW3 := Lib.hid (show (∀ i, left1.ownBlock = some i → w2.heap.size ≤ i ∧ i < w3.heap.size) ∧ w2.heap.size ≤ w3.heap.size from ⟨fun i h => ⟨(hk1 i h).elim (fun h => by cases h) id, (hx3.2.blk i h).2⟩, hf3.size⟩)
  have HF3 := Lib.hid g3
  have HX3 := Lib.hid hx3
  have HY3 := Lib.hid (HY.out.kept hf3 (fun h => by have := HW.out; exact h.elim (fun h => by omega) (fun h => by cases h)) (fun i h => by cases h))
  have HU3 := Lib.hid (show w3.cell? ⟨w.heap.size, 0, none⟩ = some (.int .u64 (u k.1)) ∧ w3.cell? ⟨w.heap.size, 1, none⟩ = some (.int .u64 (u k.2)) from by
    have hn : ¬ (w.heap.size = b1 ∨ (Value.slice none 0 0).ownBlock = some w.heap.size) := fun h => by have := HW.out; exact h.elim (fun h => by omega) (fun h => by cases h)
    exact ⟨(hf3.cell (by have := HW.out; exact Nat.lt_trans this.1 (Nat.lt_trans this.2.1 this.2.2)) hn).trans HU2.out.1, (hf3.cell (by have := HW.out; exact Nat.lt_trans this.1 (Nat.lt_trans this.2.1 this.2.2)) hn).trans HU2.out.2⟩)
  clear hf3 g3 hx3 hk1 HX HY HU2 q1
  go_wp2_with fail
  have q1 : c ≠ [] → (Value.slice ao2 c.length cap2).ownBlock ≠ some b2 := fun hne h => by
    have q2 := HC.out.lt (fun e => hne (List.map_eq_nil_iff.1 e)) b2 h
    have := HW.out; omega
  refine (hwrite_any b2 k _ [] _ c w.heap.size w3 HY3.out HF3.out.size (HC.out.kept HF3.out (fun _ _ _ _ f => f)) q1 (by simp; omega)).mono ?_
  rintro e w4 ⟨rfl, left2, hy4, hk2, hf4⟩
  have g4 : Fr none_ w w4 := HF3.out.step hf4 (fun i hi h => by have := HW.out; exact h.elim (fun h => by omega) (fun h => by cases h))
  have HW4 := Lib.hid (show (∀ i, left2.ownBlock = some i → w3.heap.size ≤ i ∧ i < w4.heap.size) ∧ w3.heap.size ≤ w4.heap.size from ⟨fun i h => ⟨(hk2 i h).elim (fun h => by cases h) id, (hy4.2.blk i h).2⟩, hf4.size⟩)
  have HF4 := Lib.hid g4
  have HY4 := Lib.hid hy4
  have HX4 := Lib.hid (HX3.out.kept hf4 (fun h => by have := HW.out; exact h.elim (fun h => by omega) (fun h => by cases h)) (fun i h h' => by have := HW.out; have := (HW3.out.1 i h); exact h'.elim (fun h' => by omega) (fun h' => by cases h')))
  have HU4 := Lib.hid (show w4.cell? ⟨w.heap.size, 0, none⟩ = some (.int .u64 (u k.1)) ∧ w4.cell? ⟨w.heap.size, 1, none⟩ = some (.int .u64 (u k.2)) from by
    have hn : ¬ (w.heap.size = b2 ∨ (Value.slice none 0 0).ownBlock = some w.heap.size) := fun h => by have := HW.out; exact h.elim (fun h => by omega) (fun h => by cases h)
    have hlt : w.heap.size < w3.heap.size := by have := HW.out; have := HW3.out.2; omega
    exact ⟨(hf4.cell hlt hn).trans HU3.out.1, (hf4.cell hlt hn).trans HU3.out.2⟩)
  clear hf4 g4 hy4 hk2 HX3 HY3 HU3 q1 HF2
  rw [List.nil_append] at HX4 HY4
  go_wp2_with fail
  refine (hasks_any b1 k left1 a w.heap.size w4 HX4.out).mono ?_
  rintro e w5 ⟨rfl, hf5⟩
  go_wp2_with fail
  refine (hasks_any b2 k left2 c w.heap.size w5 (HY4.out.same hf5)).mono ?_
  rintro e w6 ⟨rfl, hf6⟩
  have HF46 := Lib.hid (hf5.trans hf6)
  have HX6 := Lib.hid ((HX4.out.same hf5).same hf6)
  have HY6 := Lib.hid ((HY4.out.same hf5).same hf6)
  clear hf5 hf6 HX4 HY4
  go_wp2_with fail
  have q1 : c ≠ [] → (Value.slice ao2 c.length cap2).ownBlock ≠ some b1 := fun hne h => by
    have q2 := HC.out.lt (fun e => hne (List.map_eq_nil_iff.1 e)) b1 h
    have := HW.out; omega
  refine (hwrite_any b1 k left1 a _ c w.heap.size w6 HX6.out (HF4.out.trans HF46.out).size (HC.out.kept (HF4.out.trans HF46.out) (fun _ _ _ _ f => f)) q1 (by omega)).mono ?_
  rintro e w7 ⟨rfl, left3, hx7, hk3, hf7⟩
  have HY7 := Lib.hid (HY6.out.kept hf7 (fun h => by have := HW.out; exact h.elim (fun h => by omega) (fun h => by have := HW3.out.1 _ h; omega)) (fun i h h' => by have := HW.out; have := HW4.out.1 i h; have := HW3.out.2; exact h'.elim (fun h' => by omega) (fun h' => by have := HW3.out.1 _ h'; omega)))
  have HF7 := Lib.hid ((HF4.out.trans HF46.out).step hf7 (fun i hi h => by have := HW.out; exact h.elim (fun h => by omega) (fun h => by have := HW3.out.1 _ h; omega)))
  have HX7 := Lib.hid hx7
  have HU7 := Lib.hid (show w7.cell? ⟨w.heap.size, 0, none⟩ = some (.int .u64 (u k.1)) ∧ w7.cell? ⟨w.heap.size, 1, none⟩ = some (.int .u64 (u k.2)) from by
    have hn : ¬ (w.heap.size = b1 ∨ left1.ownBlock = some w.heap.size) := fun h => by have := HW.out; exact h.elim (fun h => by omega) (fun h => by have := HW3.out.1 _ h; omega)
    have hl6 := HF46.out.size
    have hlt : w.heap.size < w4.heap.size := by have := HW.out; have := HW3.out.2; have := HW4.out.2; omega
    have h6 := box2_kept HF46.out hlt HU4.out
    exact ⟨(hf7.cell (Nat.lt_of_lt_of_le hlt hl6) hn).trans h6.1, (hf7.cell (Nat.lt_of_lt_of_le hlt hl6) hn).trans h6.2⟩)
  have hlt7 : w.heap.size < w7.heap.size := by have := HW.out; have := HW3.out.2; have := HW4.out.2; have := HF46.out.size; have := hf7.size; omega
  clear hf7 hk3 hx7 HX6 HY6 HU4 q1 HF46 HW HW3 HW4 HF3 HF4
  go_wp2_with fail
  refine region_tm [0, 5, 12, 17, 19, 21, 23, 24, 29] [3, 10] [0, 1, 2, 2, 2, 26, 38, 66, 160, 256, 256, 256, 3328, 4864, 8448, 20480, 32768, 98304, 32768, 32768, 32768, 1736704, 32768, 6324224, 8683520, 16941056, 33587200, 83886080, 134217728, 402653184, 134217728, 1744830464, 2281701376, 8589934591] [0, 17179869182, 17179869181, 17179869181, 17179869181, 0, 17179869145, 17179869117, 17179869055, 17179868927, 17179868927, 17179868927, 0, 17179864319, 17179860735, 17179852799, 17179836415, 0, 17179836415, 0, 17179836415, 0, 17179836415, 0, 0, 17162928127, 17146281983, 17112760319, 17045651455, 0, 17045651455, 15435038719, 14898167807, 12884901887] [0, 1, 3, 3, 3, 27, 63, 127, 255, 511, 511, 511, 3583, 8191, 16383, 32767, 65535, 131071, 65535, 65535, 65535, 1835007, 65535, 8126463, 16777215, 33554431, 67108863, 134217727, 268435455, 536870911, 268435455, 2147483647, 4294967295, 8589934591] 17179869183 (.alt 0 (.quiet 1 (.quiet 2 (.quiet 3 (.quiet 4 (.alt 5 (.quiet 6 (.quiet 7 (.quiet 8 (.quiet 9 (.quiet 10 (.quiet 11 (.alt 12 (.quiet 13 (.quiet 14 (.quiet 15 (.quiet 16 (.quiet 18 (.quiet 20 (.quiet 22 (.alt 17 (.alt 19 (.alt 21 (.alt 23 (.alt 24 (.quiet 25 (.quiet 26 (.quiet 27 (.quiet 28 (.quiet 30 (.alt 29 (.quiet 31 (.quiet 32 (.quiet 33 .done))) (.fin))))))) (.fin)) (.fin)) (.fin)) (.fin)) (.alt 19 (.alt 17 (.alt 21 (.alt 23 (.alt 24 (.quiet 25 (.quiet 26 (.quiet 27 (.quiet 28 (.quiet 30 (.alt 29 (.quiet 31 (.quiet 32 (.quiet 33 .done))) (.fin))))))) (.fin)) (.fin)) (.fin)) (.fin)) (.fin)))))))))) (.fin)))))))) (.fin)))))) (.fin)) (fun w' => w'.cell? ⟨w.heap.size, 0, none⟩ = some (.int .u64 (u k.1)) ∧ w'.cell? ⟨w.heap.size, 1, none⟩ = some (.int .u64 (u k.2))) (by as_aux_lemma => kernel_rfl) (by as_aux_lemma => kernel_rfl) (by as_aux_lemma => kernel_rfl) (by as_aux_lemma => kernel_rfl) (by as_aux_lemma => kernel_rfl) (by as_aux_lemma => kernel_rfl) (by as_aux_lemma => kernel_rfl) (by as_aux_lemma => kernel_rfl) (by first | exact box2_kept hg15 hlt7 HU7.out | exact box2_kept hg14 hlt7 HU7.out | exact box2_kept hg13 hlt7 HU7.out | exact box2_kept hg12 hlt7 HU7.out | exact box2_kept (hg11.alloc _) hlt7 HU7.out | exact box2_kept hg11 hlt7 HU7.out | exact box2_kept (hg10.alloc _) hlt7 HU7.out | exact box2_kept hg10 hlt7 HU7.out | exact box2_kept hg9 hlt7 HU7.out | exact box2_kept hg8 hlt7 HU7.out | exact HU7.out) ?_
  repeat' (first
    | (refine t_float (v := ?_) (a' := ?_) rfl rfl rfl ?_ ?_ ?_
       rotate_left 2
       · (intro w' hU; (try dsimp only at hU); go_simp; with_reducible rfl)
       · (simp only [Act.put, List.setIfInBounds_toArray, List.set_cons_zero, List.set_cons_succ]; rfl))
    | (refine t_bound (v := ?_) (a' := ?_) rfl rfl rfl ?_ ?_ ?_
       rotate_left 2
       · (go_simp; with_reducible rfl)
       · (simp only [Act.put, List.setIfInBounds_toArray, List.set_cons_zero, List.set_cons_succ]; rfl))
    | (refine t_skip (a' := ?_) rfl rfl ?_ ?_
       rotate_left 1
       · (simp only [Act.put, List.setIfInBounds_toArray, List.set_cons_zero, List.set_cons_succ]; rfl))
    | exact t_fin
    | (refine t_acts rfl rfl (fun K hK => ?_) ?_
       first | ((first | (refine wp_append_b _ _ _ 25 25 rfl w7.heap.size 5 i0 (.int .u8 0) 1 hz2 rfl v12 (a.map bv) rfl ho12 (.slice ao2 c.length cap2) rfl c.length (c.map bv) (fun ty => appends_src _ _ ty _ i0 _ Try.underlying25 hi hz0 hz1 _ _ _ (by have := src_of_rd (P := Try.prog) Try.underlying25 (HC.out.kept (HF7.out.trans hg12) (fun _ _ _ _ f => f)) (bvs_one c); rw [List.length_map] at this; exact this)) (by simp [maxLen]; omega) (by simp; omega) hg12.size (fun v13 w13 ho13 hf13 hk13 => ?_); have hg13 := hg12.step hf13 (fun i hi h => absurd (ho12.blk _ h).1 (by omega)); rw [← List.map_append] at ho13) | (refine wp_append_b _ _ _ 25 25 rfl w7.heap.size 5 i0 (.int .u8 0) 1 hz2 rfl (.slice (some ⟨_, 0, none⟩) 0 0) [] rfl (by first | exact own_made w11 [] _ (by decide) _ hg11.size | exact (own_made w10 [] 5 (by decide) _ hg10.size).kept hf11 (fun _ _ f => f)) (.slice ao1 a.length cap1) rfl a.length (a.map bv) (fun ty => appends_src _ _ ty _ i0 _ Try.underlying25 hi hz0 hz1 _ _ _ (by first | (have := src_of_rd (P := Try.prog) Try.underlying25 (HA.out.kept (HF7.out.trans hg11) (fun _ _ _ _ f => f)) (bvs_one a); rw [List.length_map] at this; exact this) | (have := src_of_rd (P := Try.prog) Try.underlying25 (HA.out.kept (HF7.out.trans (hg11.alloc (.cells #[] 5))) (fun _ _ _ _ f => f)) (bvs_one a); rw [List.length_map] at this; exact this))) (by simp [maxLen]; omega) (by simp; omega) (by first | exact hg11.size | exact (hg11.alloc _).size) (fun v12 w12 ho12 hf12 hk12 => ?_); have hg12 : Fr none_ w7 w12 := (by first | exact (hg11.alloc _).step hf12 (fun i hi h => by simp [Value.ownBlock] at h; have := hg11.size; omega) | exact hg11.step hf12 (fun i hi h => by simp [Value.ownBlock] at h; have := hg10.size; omega)); rw [List.nil_append] at ho12)); simp only [Act.put, List.setIfInBounds_toArray, List.set_cons_zero, List.set_cons_succ]) | (go_simp; try (go_wp2_with (first | (go_at_call 27; refine (told1_any _).mono ?_; rintro e w8 ⟨rfl, hf8⟩; have hg8 := (Fr.refl none_ w7).drew.trans hf8; obtain ⟨p8, q8⟩ := box2_kept hg8 hlt7 HU7.out) | (go_at_call 32; refine (ssum_any k v13 (a ++ c) _ ho13.rd (by simp; omega)).mono ?_; rintro e w14 ⟨rfl, hf14⟩; have hg14 := hg13.trans hf14) | (go_at_call 32; refine (ssum_any k (.slice ao2 c.length cap2) c _ (HC.out.kept (HF7.out.trans hg9) (fun _ _ _ _ f => f)) (by omega)).mono ?_; rintro e w10 ⟨rfl, hf10⟩; have hg10 := hg9.trans hf10) | (go_at_call 32; refine (ssum_any k (.slice ao1 a.length cap1) a _ (HA.out.kept (HF7.out.trans hg8) (fun _ _ _ _ f => f)) (by omega)).mono ?_; rintro e w9 ⟨rfl, hf9⟩; have hg9 := hg8.trans hf9; obtain ⟨p9, q9⟩ := box2_kept hg9 hlt7 HU7.out) | (go_at_call 38; refine (hasks_any b2 k left2 c w.heap.size _ (HY7.out.same hg14)).mono ?_; rintro e w15 ⟨rfl, hf15⟩; have hg15 := hg14.trans hf15) | (go_at_call 38; refine (hasks_any b1 k left3 (a ++ c) w.heap.size _ (by first | exact HX7.out.same hg10 | exact HX7.out.same (hg10.alloc _))).mono ?_; rintro e w11 ⟨rfl, hf11⟩; have hg11 : Fr none_ w7 w11 := (by first | exact hg10.trans hf11 | exact (hg10.alloc _).trans hf11)))))
       refine hK.out _ _ (by first | exact box2_kept hg15 hlt7 HU7.out | exact box2_kept hg14 hlt7 HU7.out | exact box2_kept hg13 hlt7 HU7.out | exact box2_kept hg12 hlt7 HU7.out | exact box2_kept (hg11.alloc _) hlt7 HU7.out | exact box2_kept hg11 hlt7 HU7.out | exact box2_kept (hg10.alloc _) hlt7 HU7.out | exact box2_kept hg10 hlt7 HU7.out | exact box2_kept hg9 hlt7 HU7.out | exact box2_kept hg8 hlt7 HU7.out | exact HU7.out) ?_
       clear hK K))
  all_goals (refine t_done ?_)
  all_goals
    go_wp2
    go_ret
    exact ⟨rfl, HF7.out.trans hg15⟩

namespace sipTwo
open Go Go.ChangeShapes Go.WideShapes Go.ChangeAt Go.RowKit
set_option linter.unusedVariables false
set_option maxRecDepth 100000 in
theorem lifted (os : Os) (started : os.Started) (H : Type) (enc : TypeId × Value → H) :
    ReturnsInHanded {} Try.checked os 8 .any (Rows.sipTwoSpec.pre6 enc Try.prog Try.f8 Rows.sipTwoRow.domain false) (Rows.sipTwoSpec.post enc Try.prog Try.f8 false true false false) := by
  refine returnsInHanded_of_change (C := Try.checked) owned started (by kernel_rfl) Try.func8
    (ChangeSpec.witness6 (enc := enc) (C := Try.checked) false ⟨#[], #[.agg #[.int .u64 0, .int .u64 0], .slice none 0 0, .slice none 0 0], []⟩ 8 (by kernel_rfl) (by kernel_rfl) (by kernel_rfl) (by kernel_rfl)) ?_
  intro W base args ds gs before hval0 hW hcnd _
  have hval : ∀ (j : Nat) t v, Try.f8.params[j]? = some t → args[j]? = some v → Value.okWide Try.prog W .any base t v := hval0
  have hW' := hW
  obtain ⟨p, q, hA0, hV, rfl, hfz, hnd⟩ := hW
  have hA : DataW.TrodAll enc Try.prog W 0 (fun _ => true) true Try.f8.params.toList args.toList ds p := hA0
  rw [Try.params8] at hA hval
  obtain ⟨v0, vs0, d0, ds0, p0, q0, hargs, rfl, rfl, h0, r0⟩ := trodAll_cons hA
  obtain ⟨v1, vs1, d1, ds1, p1, q1, rfl, rfl, rfl, h1, r1⟩ := trodAll_cons r0
  obtain ⟨v2, vs2, d2, ds2, p2, q2, rfl, rfl, rfl, h2, r2⟩ := trodAll_cons r1
  obtain ⟨rfl, rfl, rfl⟩ := trodAll_nil r2
  obtain rfl : args = #[v0, v1, v2] := by cases args; simp_all
  obtain ⟨rfl, rfl⟩ := trodVars_none hV
  have k0 := h0
  have lt0 : ∀ x ∈ p0, x.block < W.heap.size := by obtain ⟨m, hm⟩ := k0; exact DataW.trod_lt m _ _ _ hm
  have k1 := h1
  have lt1 : ∀ x ∈ p1, x.block < W.heap.size := by obtain ⟨m, hm⟩ := k1; exact DataW.trod_lt m _ _ _ hm
  have k2 := h2
  have lt2 : ∀ x ∈ p2, x.block < W.heap.size := by obtain ⟨m, hm⟩ := k2; exact DataW.trod_lt m _ _ _ hm
  obtain ⟨x0, rfl⟩ := open_arr2 Try.underlying23 Try.underlying22 (by kernel_rfl) (by kernel_rfl) (hval 0 23 v0 rfl rfl) h0
  obtain ⟨x1, hr1⟩ := open_bytes Try.underlying25 Try.underlying5 (by kernel_rfl) (hval 1 25 v1 rfl rfl) h1
  obtain ⟨x2, hr2⟩ := open_bytes Try.underlying25 Try.underlying5 (by kernel_rfl) (hval 2 25 v2 rfl rfl) h2
  clear hA0 hval0
  refine (walk_SipTwo W x0 v1 x1 hr1 v2 x2 hr2).mono fun e W' ⟨he, fr⟩ => ?_
  subst he
  have bel := fr.below
  exact ⟨_, rfl, _, _, _, [], _, [], hW', trodAll_mk1 (shut_bool Try.underlying4 _), (trodAll_cons_mk (Below.trod laid (by kernel_rfl) (of_decide_eq_true (by kernel_rfl)) k0 bel lt0) (trodAll_cons_mk (Below.trod laid (by kernel_rfl) (of_decide_eq_true (by kernel_rfl)) k1 bel lt1) (trodAll_cons_mk (Below.trod laid (by kernel_rfl) (of_decide_eq_true (by kernel_rfl)) k2 bel lt2) trodAll_mk0))), rfl, bel.frame _, fun h => by cases h⟩

theorem inPlace : Try.prog.inPlace 8 = [] := inPlace_none _ _ (by kernel_rfl)
theorem closed : joinedFacts Try.prog 8 Try.f8 Rows.sipTwoSpec Rows.sipTwoRow = true := by
  unfold joinedFacts
  repeat' (with_reducible refine and_mk ?_ ?_)
  all_goals first
    | with_reducible exact enters
    | with_reducible exact laid
    | with_reducible exact rowed
    | with_reducible exact noStops
    | with_reducible exact noKnobs
    | with_reducible exact heard
    | (rw [lifts]; as_aux_lemma => kernel_rfl)
    | (rw [makes]; as_aux_lemma => kernel_rfl)
    | (rw [plains]; as_aux_lemma => kernel_rfl)
    | (rw [inPlace]; as_aux_lemma => kernel_rfl)
    | as_aux_lemma => kernel_rfl
theorem named : Try.prog.funcNamed Rows.sipTwoRow.func = some 8 := by kernel_rfl
theorem isOne : (Try.f8).isInstance Try.prog Rows.sipTwoRow.origin Rows.sipTwoRow.targs := of_decide_eq_true (by kernel_rfl)
theorem wraps : (Try.f8).isWrapper Try.prog Rows.sipTwoRow.wrapper Rows.sipTwoRow.mainSum := by unfold Func.isWrapper; first | (rw [if_pos (by decide +kernel)]; kernel_rfl) | (rw [if_neg (by decide +kernel)]; exact ⟨rfl, rfl⟩)
theorem over : Rows.sipTwoRow.holds Try.pinned (OpenSpec.ofChange Rows.sipTwoSpec) :=
  OpenClaim.holds_of_wide 8 Try.f8 rfl rfl rfl rfl rfl rfl rfl ⟨rfl, rfl, rfl, rfl, rfl⟩ rfl rfl rfl rfl rfl named Try.func8 closed
    isOne wraps
    (fun os started H enc _ => lifted os started H enc)

/-- THE STATEMENT. -/
theorem proved : Rows.SipTwoSaid := over
#print axioms proved
end sipTwo
end Go.Proofs.Ytandenkoejbloaa
