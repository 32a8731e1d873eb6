/- Walk of wire.Put. -/
import Derived.Test.YtandenkoejbloaaMay
import Derived.Test.YtandenkoejbloaaCat
import Derived.Test.YtandenkoejbloaaRegM
namespace Go.Proofs.Ytandenkoejbloaa
open Go Go.RowKit

theorem u8_wi (x : Int) : IntKind.u8.wrap x = v8 (lo (wi x)) := by
  unfold v8 lo wi
  show _ = (((BitVec.ofInt 64 x).setWidth 8).toNat : Int)
  rw [BitVec.toNat_setWidth, BitVec.toNat_ofInt, IntKind.wrap_u8]
  omega
theorem u64_wi (x : Int) : IntKind.u64.wrap x = u (wi x) := (u_ofInt x).symm

theorem Own.take {w : World} {base : Nat} {e : TypeId} {g off n cap : Nat} {vs : List Value} (h : Own w base e (.slice (some ⟨g, off, none⟩) n cap) vs) (k : Nat) (hk : k ≤ vs.length) : Own w base e (.slice (some ⟨g, off, none⟩) k cap) (vs.take k) := by
  rcases h with ⟨h, _⟩ | ⟨g', off', cap', cur, fz, hv, hb, hg, hz, h1, h2, h3, h4⟩
  · cases h
  · simp only [Value.slice.injEq, Option.some.injEq, Addr.mk.injEq, and_true, true_and] at hv
    obtain ⟨⟨rfl, rfl⟩, _, rfl⟩ := hv
    have hl : (vs.take k).length = k := by rw [List.length_take]; omega
    refine .inr ⟨g, off, cap, cur, fz, by rw [hl], hb, hg, hz, by omega, h2, h3, ?_⟩
    rw [hl, ← h4, List.take_take]
    congr 1; omega

def msgCells (m : Ms) : List Value := [.int .i64 m.kind, .int .i64 m.who, .int .i64 m.gen, .int .i64 m.seq, .int .i64 m.epoch, .int .i64 m.value, .int .i64 m.metric]
/-- The seven cells of a message, at a block. -/
abbrev MsgAt (w : World) (b : Nat) (m : Ms) : Prop :=
  w.cell? ⟨b, 0, none⟩ = some (.int .i64 m.kind) ∧ w.cell? ⟨b, 1, none⟩ = some (.int .i64 m.who) ∧ w.cell? ⟨b, 2, none⟩ = some (.int .i64 m.gen) ∧ w.cell? ⟨b, 3, none⟩ = some (.int .i64 m.seq) ∧
  w.cell? ⟨b, 4, none⟩ = some (.int .i64 m.epoch) ∧ w.cell? ⟨b, 5, none⟩ = some (.int .i64 m.value) ∧ w.cell? ⟨b, 6, none⟩ = some (.int .i64 m.metric)
theorem msgAt_blk {w : World} {b : Nat} {e : TypeId} {m : Ms} (h : Blk w b e (msgCells m)) : MsgAt w b m := ⟨h.cell_of rfl, h.cell_of rfl, h.cell_of rfl, h.cell_of rfl, h.cell_of rfl, h.cell_of rfl, h.cell_of rfl⟩
theorem msgAt_kept {S : Nat → Prop} {w w' : World} {b : Nat} {m : Ms} (hf : Fr S w w') (hb : b < w.heap.size) (hS : ¬ S b) (h : MsgAt w b m) : MsgAt w' b m := by
  obtain ⟨h0, h1, h2, h3, h4, h5, h6⟩ := h
  exact ⟨(hf.cell hb hS).trans h0, (hf.cell hb hS).trans h1, (hf.cell hb hS).trans h2, (hf.cell hb hS).trans h3, (hf.cell hb hS).trans h4, (hf.cell hb hS).trans h5, (hf.cell hb hS).trans h6⟩
theorem msgAt_same {w w' : World} {b : Nat} {m : Ms} (hf : Fr none_ w w') (hb : b < w.heap.size) (h : MsgAt w b m) : MsgAt w' b m := msgAt_kept hf hb (fun f => f) h

set_option maxRecDepth 100000 in
set_option maxHeartbeats 1600000 in
theorem wput_bad (m : Ms) (w : World) (hm : mayM m = false) : Calls Try.prog 53 #[msgv m] w fun e w' => e = .returned (.tuple #[.slice none 0 0, .int .i64 1]) ∧ Fr none_ w w' := by
  have hF := (Fr.refl none_ w).alloc (.cells #[.int .i64 m.kind, .int .i64 m.who, .int .i64 m.gen, .int .i64 m.seq, .int .i64 m.epoch, .int .i64 m.value, .int .i64 m.metric] 68)
  have HM := fun wa => may_any m wa
  rw [hm] at HM
  unfold msgv at *
  go_enter Try.func53, Try.ntmps53
  go_wp2_with fail
  refine (HM _).mono ?_
  rintro e w1 ⟨rfl, hf1⟩
  go_wp2
  exact bodyPost_ret (v := .tuple #[.slice none 0 0, .int .i64 1]) (by simp [results, Try.results53, go_sem]) rfl ⟨rfl, hF.trans hf1⟩

def tailB (m : Ms) (j : Nat) : List UInt8 := ([wi m.seq, wi m.epoch, wi m.value].take j).flatMap putB
def headB (m : Ms) : List UInt8 := [1, lo (wi m.kind), lo (wi m.who), lo (wi m.metric)] ++ (putB (wi m.gen)).take 4
theorem msgB_tail (m : Ms) : headB m ++ tailB m 3 = msgB m := by simp [headB, tailB, msgB, List.append_assoc]
theorem tail_succ (m : Ms) (j : Nat) (x : W) (h : [wi m.seq, wi m.epoch, wi m.value][j]? = some x) : tailB m (j + 1) = tailB m j ++ putB x := by
  obtain ⟨hj, rfl⟩ := List.getElem?_eq_some_iff.1 h
  unfold tailB
  rw [List.take_succ_eq_append_getElem hj, List.flatMap_append]; simp
theorem tail_length (m : Ms) (j : Nat) (h : j ≤ 3) : (tailB m j).length = 8 * j := by
  rcases (show j = 0 ∨ j = 1 ∨ j = 2 ∨ j = 3 by omega) with rfl | rfl | rfl | rfl <;> simp [tailB, putB_length]
theorem head_length (m : Ms) : (headB m).length = 8 := by simp [headB, putB_length]

set_option maxRecDepth 100000 in
set_option maxHeartbeats 12800000 in
theorem wput_ok (m : Ms) (w : World) (hm : mayM m = true) : Calls Try.prog 53 #[msgv m] w fun e w' => ∃ v, e = .returned (.tuple #[v, .int .i64 0]) ∧ Own w' w.heap.size 5 v ((msgB m).map bv) ∧ Fr none_ w w' := by
  obtain ⟨i0, hi, hz0, hz1, hz2⟩ := info_parts info_u8
  have hB := Blk.new w #[.int .i64 m.kind, .int .i64 m.who, .int .i64 m.gen, .int .i64 m.seq, .int .i64 m.epoch, .int .i64 m.value, .int .i64 m.metric] 68
  have hF := (Fr.refl none_ w).alloc (.cells #[.int .i64 m.kind, .int .i64 m.who, .int .i64 m.gen, .int .i64 m.seq, .int .i64 m.epoch, .int .i64 m.value, .int .i64 m.metric] 68)
  have HM := fun wa => may_any m wa
  rw [hm] at HM
  unfold msgv at *
  go_enter Try.func53, Try.ntmps53
  go_wp2_with fail
  refine (HM _).mono ?_
  rintro e w1 ⟨rfl, hf1⟩
  have hB1 := hB.kept hf1 (fun f => f)
  have HF1 := Lib.hid (hF.trans hf1)
  clear hB hF hf1 HM
  go_wp2_with fail
  have hbl := hB1.lt
  have HU := Lib.hid (msgAt_blk (m := m) hB1)
  have hg0 := (Fr.refl none_ w1).drew
  have hu8 := u8_wi
  have hu64 := u64_wi
  have hpl := putB_length (wi m.gen)
  refine region_tm [9, 13, 15] [] [0, 1, 2, 0, 8, 16, 0, 64, 128, 292, 0, 1024, 2048, 4096, 8192, 25088, 65535] [131071, 131070, 131069, 131071, 131063, 131055, 131071, 131007, 130943, 0, 131071, 130047, 129023, 0, 122879, 0, 98303] [0, 1, 3, 0, 8, 24, 0, 64, 192, 511, 0, 1024, 3072, 7168, 15360, 32767, 65535] 131071 (.quiet 0 (.quiet 1 (.quiet 2 (.quiet 3 (.quiet 4 (.quiet 5 (.quiet 6 (.quiet 7 (.quiet 8 (.quiet 10 (.quiet 11 (.quiet 12 (.alt 9 (.alt 13 (.quiet 14 (.alt 15 (.quiet 16 .done) (.fin))) (.fin)) (.alt 13 (.quiet 14 (.alt 9 (.alt 15 (.quiet 16 .done) (.fin)) (.fin))) (.fin))))))))))))))) (fun w' => w'.cell? ⟨w.heap.size, 0, none⟩ = some (.int .i64 m.kind) ∧ w'.cell? ⟨w.heap.size, 1, none⟩ = some (.int .i64 m.who) ∧ w'.cell? ⟨w.heap.size, 2, none⟩ = some (.int .i64 m.gen) ∧ w'.cell? ⟨w.heap.size, 3, none⟩ = some (.int .i64 m.seq) ∧ w'.cell? ⟨w.heap.size, 4, none⟩ = some (.int .i64 m.epoch) ∧ w'.cell? ⟨w.heap.size, 5, none⟩ = some (.int .i64 m.value) ∧ w'.cell? ⟨w.heap.size, 6, none⟩ = some (.int .i64 m.metric)) (by as_aux_lemma => kernel_rfl) (by as_aux_lemma => kernel_rfl) (by as_aux_lemma => kernel_rfl) (by as_aux_lemma => kernel_rfl) (by as_aux_lemma => kernel_rfl) (by as_aux_lemma => kernel_rfl) (by as_aux_lemma => kernel_rfl) (by as_aux_lemma => kernel_rfl) (by first | with_reducible exact msgAt_same hg3 hbl HU.out | with_reducible exact msgAt_same (hg2.alloc _) hbl HU.out | with_reducible exact msgAt_same hg2 hbl HU.out | with_reducible exact msgAt_same (hg0.alloc _) hbl HU.out | exact HU.out) ?_
  repeat' (first
    | (refine t_float (v := ?_) (a' := ?_) rfl rfl rfl ?_ ?_ ?_
       rotate_left 2
       · (intro w' hU; (try dsimp only at hU); go_simp; with_reducible rfl)
       · (simp only [Act.put, List.setIfInBounds_toArray, List.set_cons_zero, List.set_cons_succ]; rfl))
    | (refine t_bound (v := ?_) (a' := ?_) rfl rfl rfl ?_ ?_ ?_
       rotate_left 2
       · (go_simp; with_reducible rfl)
       · (simp only [Act.put, List.setIfInBounds_toArray, List.set_cons_zero, List.set_cons_succ]; rfl))
    | exact t_fin
    | (refine t_acts rfl rfl (fun K hK => ?_) ?_
       first | ((first | (refine wp_append_b _ _ _ 25 25 rfl w1.heap.size 5 i0 (.int .u8 0) 1 hz2 rfl (.slice (some ⟨w1.drew.heap.size, 0, none⟩) 4 4) ([1, lo (wi m.kind), lo (wi m.who), lo (wi m.metric)].map bv) rfl ((own_made w1.drew ([1, lo (wi m.kind), lo (wi m.who), lo (wi m.metric)].map bv) 5 (by show 4 ≤ maxLen; decide) w1.heap.size (Nat.le_refl _)).kept hf2 (fun _ _ f => f)) (.slice (some ⟨g, off, none⟩) 4 cap) rfl 4 (((putB (wi m.gen)).take 4).map bv) (fun ty => appends_src _ _ ty _ i0 _ Try.underlying25 hi hz0 hz1 _ _ _ (by have := src_of_rd (P := Try.prog) Try.underlying25 (by have := ((ho2.take 4 (by rw [List.length_map, hpl]; omega)).rd); rw [← List.map_take] at this; exact this) (bvs_one ((putB (wi m.gen)).take 4)); rw [List.length_map, List.length_take, hpl] at this; exact this)) (by simp [maxLen]) (by simp) (Nat.le_trans (by simp) hf2.size) (fun v3 w3 ho3 hf3 hk3 => ?_); have hg3 : Fr none_ w1 w3 := ((hg0.alloc _).trans hf2).step hf3 (fun i hi h => by simp [Value.ownBlock] at h; omega)) | (refine wp_append_b _ _ _ 25 25 rfl w1.heap.size 5 i0 (.int .u8 0) 1 hz2 rfl (.slice (some ⟨w2.heap.size, 0, none⟩) 4 4) ([1, lo (wi m.kind), lo (wi m.who), lo (wi m.metric)].map bv) rfl (own_made w2 ([1, lo (wi m.kind), lo (wi m.who), lo (wi m.metric)].map bv) 5 (by show 4 ≤ maxLen; decide) w1.heap.size hf2.size) (.slice (some ⟨g, off, none⟩) 4 cap) rfl 4 (((putB (wi m.gen)).take 4).map bv) (fun ty => appends_src _ _ ty _ i0 _ Try.underlying25 hi hz0 hz1 _ _ _ (by have := src_of_rd (P := Try.prog) Try.underlying25 (by have := (((ho2.take 4 (by rw [List.length_map, hpl]; omega)).rd)).alloc (.cells #[bv 1, bv (lo (wi m.kind)), bv (lo (wi m.who)), bv (lo (wi m.metric))] 5); rw [← List.map_take] at this; exact this) (bvs_one ((putB (wi m.gen)).take 4)); rw [List.length_map, List.length_take, hpl] at this; exact this)) (by simp [maxLen]) (by simp) (Nat.le_trans hf2.size (by simp)) (fun v3 w3 ho3 hf3 hk3 => ?_); have hg3 : Fr none_ w1 w3 := ((hg0.trans hf2).alloc _).step hf3 (fun i hi h => by simp [Value.ownBlock] at h; have := hf2.size; simp at this; omega))); simp only [Act.put, List.setIfInBounds_toArray, List.set_cons_zero, List.set_cons_succ]) | (go_simp; try (go_wp2_with ((go_at_call 34; refine (put_any (wi m.gen) _).mono ?_; rintro e w2 ⟨v2, rfl, ho2, hf2⟩; have hg2 : Fr none_ w1 w2 := (by first | exact (hg0.alloc _).trans hf2 | exact hg0.trans hf2); obtain ⟨g, off, cap, hv, hb, hgl, hc1, hc2, _⟩ := ho2.at (by rw [List.length_map, hpl]; omega); rw [List.length_map, hpl] at hv hc1; subst hv; have hle : (4 : Int) ≤ (cap : Int) := (by omega)))))
       refine hK.out _ _ (by first | with_reducible exact msgAt_same hg3 hbl HU.out | with_reducible exact msgAt_same (hg2.alloc _) hbl HU.out | with_reducible exact msgAt_same hg2 hbl HU.out | with_reducible exact msgAt_same (hg0.alloc _) hbl HU.out | exact HU.out) ?_
       clear hK K))
  all_goals (refine t_done ?_)
  all_goals
    replace ho3 : Own w3 w1.heap.size 5 v3 ((headB m ++ tailB m 0).map bv) := by
      have e : headB m ++ tailB m 0 = [1, lo (wi m.kind), lo (wi m.who), lo (wi m.metric)] ++ (putB (wi m.gen)).take 4 := by simp [headB, tailB]
      rw [e]; simpa only [List.map_append, List.append_assoc, List.map_cons, List.map_nil, List.cons_append, List.nil_append] using ho3
    have HM3 := Lib.hid (msgAt_same hg3 hbl HU.out)
    have HG3 := Lib.hid (HF1.out.trans hg3)
    have HO3 := Lib.hid ho3
    have hb3 : w1.heap.size ≤ w3.heap.size := hg3.size
    have hv3 : ∀ k, v3.ownBlock = some k → k < w3.heap.size := fun k hk => (ho3.blk k hk).2
    clear hg3 hf3 hk3 ho3 ho2 hf2 hg2 HU HF1 hb hgl hle hc1 hc2
    obtain ⟨m0, m1, m2, m3, m4, m5, m6⟩ := HM3.out
    go_wp2_with fail
    have hS := Blk.new w3 #[.int .i64 m.seq, .int .i64 m.epoch, .int .i64 m.value] 2
    have hG := HG3.out.alloc (.cells #[.int .i64 m.seq, .int .i64 m.epoch, .int .i64 m.value] 2)
    have hO := HO3.out.alloc (.cells #[.int .i64 m.seq, .int .i64 m.epoch, .int .i64 m.value] 2)
    clear m0 m1 m2 m3 m4 m5 m6 HM3 HG3 HO3
    generalize w3.alloc (.cells #[.int .i64 m.seq, .int .i64 m.epoch, .int .i64 m.value] 2) = w4 at *
    go_loopw [4, 34] (fun v i wr => ∃ j : Nat, j ≤ 3 ∧ i = .int .i64 j ∧ Own wr w1.heap.size 5 v ((headB m ++ tailB m j).map bv) ∧ Blk wr w3.heap.size 2 [.int .i64 m.seq, .int .i64 m.epoch, .int .i64 m.value] ∧ (∀ k, v.ownBlock = some k → k ≠ w3.heap.size) ∧ Fr none_ w wr) (fun _ i _ => 3 - (intOf i).toNat)
    case atStart => exact ⟨0, by omega, rfl, hO, hS, fun k hk => by have := hv3 k hk; omega, hG⟩
    case round =>
      clear hS hG hO
      obtain ⟨j, hj, rfl, hO, hS, hne, hG⟩ := hrel
      by_cases hlt : j < 3
      · have hlk : (j : Int) < 3 := by omega
        obtain ⟨x, hx1, hx2⟩ : ∃ x : Int, ([.int .i64 m.seq, .int .i64 m.epoch, .int .i64 m.value] : List Value)[j]? = some (.int .i64 x) ∧ [wi m.seq, wi m.epoch, wi m.value][j]? = some (wi x) := by
          rcases (show j = 0 ∨ j = 1 ∨ j = 2 by omega) with rfl | rfl | rfl
          · exact ⟨m.seq, rfl, rfl⟩
          · exact ⟨m.epoch, rfl, rfl⟩
          · exact ⟨m.value, rfl, rfl⟩
        have hts := tail_succ m j (wi x) hx2
        have hcell := hS.cell_of hx1
        have htl := tail_length m j hj
        have hhl := head_length m
        have hplx := putB_length (wi x)
        have HS := Lib.hid hS
        have HT := Lib.hid hts
        have HG := Lib.hid hG
        have HO := Lib.hid hO
        clear hx1 hx2 hts hS hG hO
        go_wp2_with fail
        refine (put_any (wi x) _).mono ?_
        rintro e w5 ⟨v5, rfl, ho5, hf5⟩
        have hO5 := HO.out.kept hf5 (fun _ _ f => f)
        have hS5 := HS.out.kept hf5 (fun f => f)
        have hG5 := HG.out.trans hf5
        have hw1 : w1.heap.size ≤ w5.heap.size := Nat.le_trans (Nat.le_trans hb3 (Nat.le_of_lt HS.out.lt)) hf5.size
        clear HO HS HG
        have HO5 := Lib.hid hO5
        have HS5 := Lib.hid hS5
        have HG5 := Lib.hid hG5
        clear hO5 hS5 hG5 hcell
        go_wp2_with (first | (at_builtin; go_must (refine wpList_append_b _ rfl _ _ 25 25 rfl w1.heap.size 5 i0 (.int .u8 0) 1 Try.underlying25 hi hz0 hz1 hz2 rfl _ _ rfl HO5.out v5 rfl 8 ((putB (wi x)).map bv) (by have := src_of_rd (P := Try.prog) Try.underlying25 ho5.rd (bvs_one (putB (wi x))); rw [List.length_map, putB_length] at this; exact this) (by rw [List.length_map, List.length_append, htl, hhl]; simp [maxLen]; omega) (by rw [List.length_map, List.length_append, htl, hhl]; omega) hw1 ?_)))
        intro v6 w6 ho6 hf6 hk6
        replace ho6 : Own w6 w1.heap.size 5 v6 ((headB m ++ tailB m (j + 1)).map bv) := by rw [HT.out]; simpa only [List.map_append, List.append_assoc] using ho6
        have hg6 : Fr none_ w w6 := HG5.out.step hf6 (fun i hi h => by have := (HO5.out.blk _ h).1; have := hbl; omega)
        have hs6 := HS5.out.kept hf6 (fun h => hne _ h rfl)
        have hn6 : ∀ k, v6.ownBlock = some k → k ≠ w3.heap.size := fun k hk => (hk6 k hk).elim (fun h => hne k h) (fun h => by have := HS5.out.lt; omega)
        go_wp2
        go_roundw
        case rel => exact ⟨j + 1, by omega, by go_num, ho6, hs6, hn6, hg6⟩
        case measure => simp [intOf]; omega
      · obtain rfl : j = 3 := by omega
        rw [msgB_tail] at hO
        simp only [show ((3 : Nat) : Int) = 3 from rfl]
        go_wp2_with fail
        exact bodyPost_ret (v := .tuple #[_, .int .i64 0]) (by simp [results, Try.results53, go_sem]) rfl ⟨_, rfl, hO.mono (Nat.le_of_lt hbl), hG⟩
end Go.Proofs.Ytandenkoejbloaa
