/- Walks of mac.Same, mac.Bytes, mac.Tag and of the document's twins. -/
import Derived.Test.YtandenkoejbloaaRegM
import Derived.Test.YtandenkoejbloaaHash
import Derived.Test.YtandenkoejbloaaTags
import Derived.Test.YtandenkoejbloaaOps
namespace Go.Proofs.Ytandenkoejbloaa
open Go Go.RowKit

theorem tagB_length (t : W × W) : (tagB t).length = 16 := by rw [tagB, List.length_append, putB_length, putB_length]

theorem xor_or_zero (a b c d : W) : ((a ^^^ b) ||| (c ^^^ d) == 0) = (a == b && c == d) := by
  rw [Bool.eq_iff_iff, beq_iff_eq, Bool.and_eq_true, beq_iff_eq, beq_iff_eq]
  constructor
  · intro h
    have h : (a ^^^ b) ||| (c ^^^ d) = 0#64 := h
    rw [BitVec.or_eq_zero_iff, BitVec.xor_eq_zero_iff, BitVec.xor_eq_zero_iff] at h
    exact h
  · rintro ⟨rfl, rfl⟩
    simp

set_option maxHeartbeats 800000 in
theorem msame_any (s t : W × W) (w : World) : Calls Try.prog 41 #[keyv s, keyv t] w fun e w' => e = .returned (.bool (s.1 == t.1 && s.2 == t.2)) ∧ Fr none_ w w' := by
  unfold keyv
  have h0 : (u ((s.1 ^^^ t.1) ||| (s.2 ^^^ t.2)) == 0) = (s.1 == t.1 && s.2 == t.2) := by
    rw [show (0 : Int) = u (0 : W) from by decide, u_beq, xor_or_zero]
  go_enter Try.func41, Try.ntmps41
  go_wp2
  go_ret
  exact ⟨rfl, ((Fr.refl none_ w).alloc _).alloc _⟩

set_option maxRecDepth 100000 in
set_option maxHeartbeats 3200000 in
theorem mbytes_any (t : W × W) (w : World) : Calls Try.prog 40 #[keyv t] w fun e w' => ∃ v, e = .returned v ∧ Own w' w.heap.size 5 v ((tagB t).map bv) ∧ Fr none_ w w' := by
  obtain ⟨i0, hi, hz0, hz1, hz2⟩ := info_parts info_u8
  unfold keyv
  have hB := Blk.new w #[.int .u64 (u t.1), .int .u64 (u t.2)] 52
  have hF := (Fr.refl none_ w).alloc (.cells #[.int .u64 (u t.1), .int .u64 (u t.2)] 52)
  go_enter Try.func40, Try.ntmps40
  go_wp2_with fail
  generalize w.alloc (.cells #[.int .u64 (u t.1), .int .u64 (u t.2)] 52) = w0 at *
  have hbl := hB.lt
  have p0 : w0.cell? ⟨w.heap.size, 0, none⟩ = some (.int .u64 (u t.1)) := hB.cell_of rfl
  have HU := Lib.hid (show w0.cell? ⟨w.heap.size, 0, none⟩ = some (.int .u64 (u t.1)) ∧ w0.cell? ⟨w.heap.size, 1, none⟩ = some (.int .u64 (u t.2)) from ⟨hB.cell_of rfl, hB.cell_of rfl⟩)
  have HF := Lib.hid hF
  clear hB hF
  refine region_tm [2, 5, 6] [1] [0, 1, 2, 0, 8, 20, 36, 127] [255, 254, 0, 255, 247, 0, 0, 191] [0, 1, 3, 0, 8, 31, 63, 127] 255 (.quiet 0 (.quiet 1 (.quiet 3 (.quiet 4 (.alt 2 (.alt 5 (.alt 6 (.quiet 7 .done) (.fin)) (.fin)) (.fin)))))) (fun w' => w'.cell? ⟨w.heap.size, 0, none⟩ = some (.int .u64 (u t.1)) ∧ w'.cell? ⟨w.heap.size, 1, none⟩ = some (.int .u64 (u t.2))) (by as_aux_lemma => kernel_rfl) (by as_aux_lemma => kernel_rfl) (by as_aux_lemma => kernel_rfl) (by as_aux_lemma => kernel_rfl) (by as_aux_lemma => kernel_rfl) (by as_aux_lemma => kernel_rfl) (by as_aux_lemma => kernel_rfl) (by as_aux_lemma => kernel_rfl) (by first | exact box2_kept hg3 hbl HU.out | exact box2_kept hg2 hbl HU.out | exact box2_kept hg1 hbl HU.out | exact HU.out) ?_
  repeat' (first
    | (refine t_float (v := ?_) (a' := ?_) rfl rfl rfl ?_ ?_ ?_
       rotate_left 2
       · (intro w' hU; (try dsimp only at hU); go_simp; with_reducible rfl)
       · (simp only [Act.put, List.setIfInBounds_toArray, List.set_cons_zero, List.set_cons_succ]; rfl))
    | (refine t_bound (v := ?_) (a' := ?_) rfl rfl rfl ?_ ?_ ?_
       rotate_left 2
       · (go_simp; with_reducible rfl)
       · (simp only [Act.put, List.setIfInBounds_toArray, List.set_cons_zero, List.set_cons_succ]; rfl))
    | exact t_fin
    | (refine t_acts rfl rfl (fun K hK => ?_) ?_
       first | ((refine wp_append_b _ _ _ 25 25 rfl w0.heap.size 5 i0 (.int .u8 0) 1 hz2 rfl v1 ((putB t.1).map bv) rfl (ho1.kept hf2 (fun _ _ f => f)) v2 rfl 8 ((putB t.2).map bv) (fun ty => appends_src _ _ ty _ i0 _ Try.underlying25 hi hz0 hz1 _ _ _ (by have := src_of_rd (P := Try.prog) Try.underlying25 ho2.rd (bvs_one (putB t.2)); rw [List.length_map, putB_length] at this; exact this)) (by simp [maxLen, putB_length]) (by simp [putB_length]) hg2.size (fun v3 w3 ho3 hf3 hk3 => ?_); have hg3 : Fr none_ w0 w3 := hg2.step hf3 (fun i hi h => absurd (ho1.blk _ h).1 (Nat.not_le.2 hi)); rw [← List.map_append] at ho3); simp only [Act.put, List.setIfInBounds_toArray, List.set_cons_zero, List.set_cons_succ]) | (go_simp; try (go_wp2_with (first | (go_at_call 34; have hq := hf1; refine (put_any t.2 _).mono ?_; clear hq; rintro e w2 ⟨v2, rfl, ho2, hf2⟩; have hg2 := hg1.trans hf2) | (go_at_call 34; refine (put_any t.1 _).mono ?_; rintro e w1 ⟨v1, rfl, ho1, hf1⟩; have hg1 := (Fr.refl none_ w0).drew.trans hf1))))
       refine hK.out _ _ (by first | exact box2_kept hg3 hbl HU.out | exact box2_kept hg2 hbl HU.out | exact box2_kept hg1 hbl HU.out | exact HU.out) ?_
       clear hK K))
  all_goals (refine t_done ?_)
  all_goals
    go_wp2
    go_ret
    exact ⟨_, rfl, ho3.mono (by have := HF.out.size; omega), HF.out.trans hg3⟩

theorem box2_set {w w' : World} {b : Nat} {x y v1 v2 : Value} (hf : Fr none_ w w') (hb : b < w.heap.size) (h : w.cell? ⟨b, 0, none⟩ = some x ∧ w.cell? ⟨b, 1, none⟩ = some y) :
    ((w'.setCell ⟨b + 1, 0, none⟩ v1).setCell ⟨b + 1, 1, none⟩ v2).cell? ⟨b, 0, none⟩ = some x ∧ ((w'.setCell ⟨b + 1, 0, none⟩ v1).setCell ⟨b + 1, 1, none⟩ v2).cell? ⟨b, 1, none⟩ = some y := by
  have hs : Fr (fun i => i = b + 1) w' ((w'.setCell ⟨b + 1, 0, none⟩ v1).setCell ⟨b + 1, 1, none⟩ v2) := ((Fr.refl (fun i => i = b + 1) w').setCell (p := ⟨b + 1, 0, none⟩) (fun _ => rfl) v1).setCell (p := ⟨b + 1, 1, none⟩) (fun _ => rfl) v2
  have h2 := box2_kept hf hb h
  have hb' := Nat.lt_of_lt_of_le hb hf.size
  exact ⟨(hs.cell hb' (fun e => by simp at e)).trans h2.1, (hs.cell hb' (fun e => by simp at e)).trans h2.2⟩
theorem u_not (x : W) : bits .xor .u64 18446744073709551615 (u x) = u (~~~x) := by
  have h := u_bits_xor (BitVec.allOnes 64) x
  rw [show u (BitVec.allOnes 64) = 18446744073709551615 from by decide] at h
  rw [h, BitVec.allOnes_xor]
theorem u_not' (x : W) : bits .xor .u64 IntKind.u64.max (u x) = u (~~~x) := u_not x
attribute [go_sem] u_not u_not'
/-- A tag's two words. -/
def tagW (k : W × W) (l : List UInt8) : W × W := (sumW k l, sumW (k.2, ~~~k.1) l)

set_option maxRecDepth 100000 in
set_option maxHeartbeats 3200000 in
theorem mtag_any (k : W × W) (v : Value) (l : List UInt8) (w : World) (hv : Rd w v (l.map bv)) (hl : l.length ≤ 140737488355000) :
    Calls Try.prog 42 #[keyv k, v] w fun e w' => e = .returned (keyv (tagW k l)) ∧ Fr none_ w w' := by
  unfold keyv
  have HV := Lib.hid hv
  have hB := (Blk.new w #[.int .u64 (u k.1), .int .u64 (u k.2)] 56).alloc (.cells #[.int .u64 0, .int .u64 0] 52)
  have hT := Blk.new (w.alloc (.cells #[.int .u64 (u k.1), .int .u64 (u k.2)] 56)) #[.int .u64 0, .int .u64 0] 52
  rw [World.size_alloc] at hT
  have hF := ((Fr.refl none_ w).alloc (.cells #[.int .u64 (u k.1), .int .u64 (u k.2)] 56)).alloc (.cells #[.int .u64 0, .int .u64 0] 52)
  clear hv
  go_enter Try.func42, Try.ntmps42
  go_wp2_with fail
  generalize (w.alloc (.cells #[.int .u64 (u k.1), .int .u64 (u k.2)] 56)).alloc (.cells #[.int .u64 0, .int .u64 0] 52) = w0 at *
  have hbl := hB.lt
  have p0 : w0.cell? ⟨w.heap.size, 0, none⟩ = some (.int .u64 (u k.1)) := hB.cell_of rfl
  have q0 : w0.cell? ⟨w.heap.size, 1, none⟩ = some (.int .u64 (u k.2)) := hB.cell_of rfl
  have HU := Lib.hid (show w0.cell? ⟨w.heap.size, 0, none⟩ = some (.int .u64 (u k.1)) ∧ w0.cell? ⟨w.heap.size, 1, none⟩ = some (.int .u64 (u k.2)) from ⟨p0, q0⟩)
  have HR := Lib.hid (HV.out.kept hF (fun _ _ _ _ f => f))
  have HF := Lib.hid hF
  have HT := Lib.hid hT
  clear hB hF hT HV
  refine region_tm [2, 10, 12] [0] [0, 0, 3, 0, 8, 0, 32, 64, 144, 0, 772, 1028, 4095] [8191, 8191, 0, 8191, 8183, 8191, 8159, 8127, 8047, 8191, 0, 7163, 0] [0, 0, 3, 0, 8, 0, 32, 96, 248, 0, 1023, 2047, 4095] 8191 (.quiet 0 (.quiet 1 (.quiet 3 (.quiet 4 (.quiet 5 (.quiet 6 (.quiet 7 (.quiet 8 (.quiet 9 (.alt 2 (.alt 10 (.quiet 11 (.alt 12 (.done) (.fin))) (.fin)) (.fin))))))))))) (fun w' => w'.cell? ⟨w.heap.size, 0, none⟩ = some (.int .u64 (u k.1)) ∧ w'.cell? ⟨w.heap.size, 1, none⟩ = some (.int .u64 (u k.2))) (by as_aux_lemma => kernel_rfl) (by as_aux_lemma => kernel_rfl) (by as_aux_lemma => kernel_rfl) (by as_aux_lemma => kernel_rfl) (by as_aux_lemma => kernel_rfl) (by as_aux_lemma => kernel_rfl) (by as_aux_lemma => kernel_rfl) (by as_aux_lemma => kernel_rfl) (by first | exact box2_set hg2 hbl HU.out | exact box2_kept hg2 hbl HU.out | exact box2_kept hg1 hbl HU.out | exact HU.out) ?_
  repeat' (first
    | (refine t_float (v := ?_) (a' := ?_) rfl rfl rfl ?_ ?_ ?_
       rotate_left 2
       · (intro w' hU; (try dsimp only at hU); go_simp; with_reducible rfl)
       · (simp only [Act.put, List.setIfInBounds_toArray, List.set_cons_zero, List.set_cons_succ]; rfl))
    | (refine t_bound (v := ?_) (a' := ?_) rfl rfl rfl ?_ ?_ ?_
       rotate_left 2
       · (go_simp; with_reducible rfl)
       · (simp only [Act.put, List.setIfInBounds_toArray, List.set_cons_zero, List.set_cons_succ]; rfl))
    | exact t_fin
    | (refine t_acts rfl rfl (fun K hK => ?_) ?_
       go_simp; try (go_wp2_with (first | (go_at_call 32; have hq := hf1; refine (ssum_any (k.2, ~~~k.1) v l _ (HR.out.kept hg1 (fun _ _ _ _ f => f)) hl).mono ?_; clear hq; rintro e w2 ⟨rfl, hf2⟩; have hg2 := hg1.trans hf2; have hb2 := HT.out.kept hg2 (fun f => f); have c0 : w2.cell? ⟨w.heap.size + 1, 0, none⟩ = some (.int .u64 0) := hb2.cell_of rfl; have c1 : w2.cell? ⟨w.heap.size + 1, 1, none⟩ = some (.int .u64 0) := hb2.cell_of rfl; have f0 := hb2.free 0; have f1 := hb2.free 1) | (go_at_call 32; refine (ssum_any k v l _ HR.out.drew hl).mono ?_; rintro e w1 ⟨rfl, hf1⟩; have hg1 := (Fr.refl none_ w0).drew.trans hf1)))
       refine hK.out _ _ (by first | exact box2_set hg2 hbl HU.out | exact box2_kept hg2 hbl HU.out | exact box2_kept hg1 hbl HU.out | exact HU.out) ?_
       clear hK K))
  all_goals (refine t_done ?_)
  all_goals
    go_wp2_with fail
    have hb3 := (hb2.setCell 0 (.int .u64 (u (sumW k l)))).setCell 1 (.int .u64 (u (sumW (k.2, ~~~k.1) l)))
    have hF3 : Fr none_ w ((w2.setCell ⟨w.heap.size + 1, 0, none⟩ (.int .u64 (u (sumW k l)))).setCell ⟨w.heap.size + 1, 1, none⟩ (.int .u64 (u (sumW (k.2, ~~~k.1) l)))) := ((HF.out.trans hg2).setCell (fun h => by simp at h; omega) _).setCell (fun h => by simp at h; omega) _
    generalize (w2.setCell ⟨w.heap.size + 1, 0, none⟩ (.int .u64 (u (sumW k l)))).setCell ⟨w.heap.size + 1, 1, none⟩ (.int .u64 (u (sumW (k.2, ~~~k.1) l))) = w3 at *
    have d0 : w3.cell? ⟨w.heap.size + 1, 0, none⟩ = some (.int .u64 (u (sumW k l))) := hb3.cell_of rfl
    have d1 : w3.cell? ⟨w.heap.size + 1, 1, none⟩ = some (.int .u64 (u (sumW (k.2, ~~~k.1) l))) := hb3.cell_of rfl
    exact bodyPost_ret (v := .agg #[.int .u64 (u (sumW k l)), .int .u64 (u (sumW (k.2, ~~~k.1) l))]) (by simp [results, Try.results42, go_sem, d0, d1]) rfl ⟨rfl, hF3⟩
end Go.Proofs.Ytandenkoejbloaa
