/- Walks of the document's Seal, GetMsg and Split. -/
import Derived.Test.YtandenkoejbloaaRwp
import Derived.Test.YtandenkoejbloaaWsplit
namespace Go.Proofs.Ytandenkoejbloaa
open Go Go.RowKit

set_option maxRecDepth 100000 in
set_option maxHeartbeats 1600000 in
theorem rseal_bad (k : W × W) (m : Ms) (w : World) (hm : mayM m = false) : Calls Try.prog 56 #[keyv k, msgv m] w fun e w' => e = .returned (.tuple #[.string (bs []), .int .i64 1]) ∧ Fr none_ w w' := by
  have hF := ((Fr.refl none_ w).alloc (.cells #[.int .u64 (u k.1), .int .u64 (u k.2)] 56)).alloc (.cells #[.int .i64 m.kind, .int .i64 m.who, .int .i64 m.gen, .int .i64 m.seq, .int .i64 m.epoch, .int .i64 m.value, .int .i64 m.metric] 68)
  have HP := fun wa => rputm_bad m wa hm
  unfold msgv keyv at *
  go_enter Try.func56, Try.ntmps56
  go_wp2_with fail
  refine (HP _).mono ?_
  rintro e w1 ⟨rfl, hf1⟩
  go_wp2
  exact bodyPost_ret (v := .tuple #[.string (bs []), .int .i64 1]) (by simp [results, Try.results56, go_sem]; rfl) rfl ⟨rfl, hF.trans hf1⟩

set_option maxRecDepth 100000 in
set_option maxHeartbeats 1600000 in
theorem rseal_ok (k : W × W) (m : Ms) (w : World) (hm : mayM m = true) : Calls Try.prog 56 #[keyv k, msgv m] w fun e w' => e = .returned (.tuple #[.string (bs (sealB k m)), .int .i64 0]) ∧ Fr none_ w w' := by
  have hF := ((Fr.refl none_ w).alloc (.cells #[.int .u64 (u k.1), .int .u64 (u k.2)] 56)).alloc (.cells #[.int .i64 m.kind, .int .i64 m.who, .int .i64 m.gen, .int .i64 m.seq, .int .i64 m.epoch, .int .i64 m.value, .int .i64 m.metric] 68)
  have hB := (Blk.new w #[.int .u64 (u k.1), .int .u64 (u k.2)] 56).alloc (.cells #[.int .i64 m.kind, .int .i64 m.who, .int .i64 m.gen, .int .i64 m.seq, .int .i64 m.epoch, .int .i64 m.value, .int .i64 m.metric] 68)
  have HP := fun wa => rputm_ok m wa hm
  have HT : ∀ wa : World, Calls Try.prog 43 #[keyv k, .string (bs (msgB m))] wa fun e w' => e = .returned (keyv (tagW k (msgB m))) ∧ Fr none_ wa w' := fun wa => rtag_any k (msgB m) wa (by rw [msgB_length]; omega)
  have HB := fun wa => rtagB_any (tagW k (msgB m)) wa
  have hadd : Op.stringOp .add (bs (msgB m)) (bs (tagB (tagW k (msgB m)))) = pure (.string (bs (sealB k m))) := str_add _ _ (by rw [msgB_length, tagB_length]; omega)
  generalize bs (sealB k m) = sB at *
  generalize tagW k (msgB m) = t at *
  unfold msgv keyv at *
  go_enter Try.func56, Try.ntmps56
  go_wp2_with fail
  refine (HP _).mono ?_
  rintro e w1 ⟨rfl, hf1⟩
  have hB1 := hB.kept hf1 (fun f => f)
  have k0 : w1.cell? ⟨w.heap.size, 0, none⟩ = some (.int .u64 (u k.1)) := hB1.cell_of rfl
  have k1 : w1.cell? ⟨w.heap.size, 1, none⟩ = some (.int .u64 (u k.2)) := hB1.cell_of rfl
  go_wp2_with fail
  refine (HT _).mono ?_
  rintro e w2 ⟨rfl, hf2⟩
  go_wp2_with fail
  refine (HB _).mono ?_
  rintro e w3 ⟨rfl, hf3⟩
  go_wp2
  exact bodyPost_ret (v := .tuple #[.string sB, .int .i64 0]) (by simp [results, Try.results56, go_sem]) rfl ⟨rfl, ((hF.trans hf1).trans hf2).trans hf3⟩

set_option maxRecDepth 100000 in
set_option maxHeartbeats 1600000 in
theorem rget_short (l : List UInt8) (w : World) (hl : l.length ≠ 32) :
    Calls Try.prog 58 #[.string (bs l)] w fun e w' => e = .returned (.tuple #[msgv (gv l), .int .i64 (gc l)]) ∧ Fr none_ w w' := by
  have hg : getM l = none := by unfold getM; rw [if_neg (fun hc => hl hc.1)]
  have e1 : gv l = zeroM := by unfold gv; rw [hg]; rfl
  have e2 : gc l = 2 := by unfold gc; rw [hg]; rfl
  rw [e1, e2]
  have hF := (Fr.refl none_ w).alloc (.cells #[.int .i64 0, .int .i64 0, .int .i64 0, .int .i64 0, .int .i64 0, .int .i64 0, .int .i64 0] 68)
  have hsz : ((bs l).size : Int) = (l.length : Int) := by rw [bs_size]
  have hne : decide ((l.length : Int) = 32) = false := by simp; omega
  go_enter Try.func58, Try.ntmps58
  go_wp2_with fail
  exact bodyPost_ret (v := .tuple #[.agg #[.int .i64 0, .int .i64 0, .int .i64 0, .int .i64 0, .int .i64 0, .int .i64 0, .int .i64 0], .int .i64 2]) (by simp [results, Try.results58, go_sem]) rfl ⟨rfl, hF⟩

set_option maxRecDepth 100000 in
set_option maxHeartbeats 3200000 in
theorem rget_32 (l : List UInt8) (w : World) (hl : l.length = 32) :
    Calls Try.prog 58 #[.string (bs l)] w fun e w' => e = .returned (.tuple #[msgv (gv l), .int .i64 (gc l)]) ∧ Fr none_ w w' := by
  have hT := Blk.new w #[.int .i64 0, .int .i64 0, .int .i64 0, .int .i64 0, .int .i64 0, .int .i64 0, .int .i64 0] 68
  have hF := (Fr.refl none_ w).alloc (.cells #[.int .i64 0, .int .i64 0, .int .i64 0, .int .i64 0, .int .i64 0, .int .i64 0, .int .i64 0] 68)
  have hsz : (bs l).size = 32 := by rw [bs_size, hl]
  have hext : (bs l).extract 4 8 = bs ((l.drop 4).take 4) := by rw [bs_extract, List.drop_take]
  have hz4 : ({ data := #[0, 0, 0, 0] } : ByteArray) = bs [0, 0, 0, 0] := rfl
  have hadd : Op.stringOp .add (bs ((l.drop 4).take 4)) (bs [0, 0, 0, 0]) = pure (.string (bs ((l.drop 4).take 4 ++ [0, 0, 0, 0]))) := str_add _ _ (by simp; omega)
  have H0 : ∀ wa : World, Calls Try.prog 31 #[.string (bs ((l.drop 4).take 4 ++ [0, 0, 0, 0])), .int .i64 0] wa fun e w' => e = .returned (.tuple #[.int .u64 (u (wordAt ((l.drop 4).take 4 ++ [0, 0, 0, 0]) 0)), .int .i64 0]) ∧ wa = w' := fun wa => rget_bs _ 0 wa (by simp [maxLen]; omega) (by omega) (by simp; omega)
  have H8 : ∀ wa : World, Calls Try.prog 31 #[.string (bs l), .int .i64 8] wa fun e w' => e = .returned (.tuple #[.int .u64 (u (wordAt l 8)), .int .i64 0]) ∧ wa = w' := fun wa => rget_bs l 8 wa (by rw [hl]; decide) (by omega) (by omega)
  have H16 : ∀ wa : World, Calls Try.prog 31 #[.string (bs l), .int .i64 16] wa fun e w' => e = .returned (.tuple #[.int .u64 (u (wordAt l 16)), .int .i64 0]) ∧ wa = w' := fun wa => rget_bs l 16 wa (by rw [hl]; decide) (by omega) (by omega)
  have H24 : ∀ wa : World, Calls Try.prog 31 #[.string (bs l), .int .i64 24] wa fun e w' => e = .returned (.tuple #[.int .u64 (u (wordAt l 24)), .int .i64 0]) ∧ wa = w' := fun wa => rget_bs l 24 wa (by rw [hl]; decide) (by omega) (by omega)
  have hgn : IntKind.i64.wrap (u (wordAt ((l.drop 4).take 4 ++ [0, 0, 0, 0]) 0)) = (rawM l).gen := by
    have h := ref_gen l (by omega)
    have e : u (wordAt ((l.drop 4).take 4 ++ [0, 0, 0, 0]) 0) = (rawM l).gen := by unfold u; rw [h]; rfl
    have e3 : (rawM l).gen = (((wordAt l 4).toNat % 4294967296 : Nat) : Int) := rfl
    rw [e, e3]
    exact IntWalk.i64_in _ (by omega)
  have h8 : IntKind.i64.wrap (u (wordAt l 8)) = (rawM l).seq := i64_u _
  have h16 : IntKind.i64.wrap (u (wordAt l 16)) = (rawM l).epoch := i64_u _
  have h24 : IntKind.i64.wrap (u (wordAt l 24)) = (rawM l).value := i64_u _
  have hbad : mayM (rawM l) = false → gv l = zeroM ∧ gc l = 2 := fun hx => by
    have hg : getM l = none := by unfold getM; rw [if_neg (fun hc => by rw [hx] at hc; exact absurd hc.2.1 (by decide))]
    exact ⟨by unfold gv; rw [hg]; rfl, by unfold gc; rw [hg]; rfl⟩
  have hdiff : (msgB (rawM l) == l) = false → gv l = zeroM ∧ gc l = 2 := fun hx => by
    have hx' : msgB (rawM l) ≠ l := fun e => by rw [e] at hx; simp at hx
    have hg : getM l = none := by unfold getM; rw [if_neg (fun hc => hx' hc.2.2)]
    exact ⟨by unfold gv; rw [hg]; rfl, by unfold gc; rw [hg]; rfl⟩
  have hgood : mayM (rawM l) = true → (msgB (rawM l) == l) = true → gv l = rawM l ∧ gc l = 0 := fun hx hy => by
    have hy' : msgB (rawM l) = l := by simpa using hy
    have hg : getM l = some (rawM l) := by unfold getM; rw [if_pos ⟨hl, hx, hy'⟩]
    exact ⟨by unfold gv; rw [hg]; rfl, by unfold gc; rw [hg]; rfl⟩
  have hi : ∀ j : Nat, IntKind.i64.wrap (v8 (l.getD j 0)) = v8 (l.getD j 0) := fun j => IntWalk.i64_in _ (by have := v8_nonneg (l.getD j 0); have := v8_lt (l.getD j 0); omega)
  have hk1 : IntKind.i64.wrap (v8 (l.getD 1 0)) = (rawM l).kind := hi 1
  have hk2 : IntKind.i64.wrap (v8 (l.getD 2 0)) = (rawM l).who := hi 2
  have hk3 : IntKind.i64.wrap (v8 (l.getD 3 0)) = (rawM l).metric := hi 3
  have hb1 : (bs l)[1] = l.getD 1 0 := by rw [str_at (bs l) 1 (by omega), bs_data]
  have hb2 : (bs l)[2] = l.getD 2 0 := by rw [str_at (bs l) 2 (by omega), bs_data]
  have hb3 : (bs l)[3] = l.getD 3 0 := by rw [str_at (bs l) 3 (by omega), bs_data]
  clear hi
  generalize l.getD 1 0 = n1 at *
  generalize l.getD 2 0 = n2 at *
  generalize l.getD 3 0 = n3 at *
  have hEq : ((bs (msgB (rawM l))).toList == (bs l).toList) = (msgB (rawM l) == l) := by rw [bs_toList, bs_toList]
  generalize rawM l = r at *
  generalize wordAt ((l.drop 4).take 4 ++ [0, 0, 0, 0]) 0 = x4 at *
  generalize wordAt l 8 = x8 at *
  generalize wordAt l 16 = x16 at *
  generalize wordAt l 24 = x24 at *
  go_enter Try.func58, Try.ntmps58
  go_wp2_with fail
  generalize w.alloc (.cells #[.int .i64 0, .int .i64 0, .int .i64 0, .int .i64 0, .int .i64 0, .int .i64 0, .int .i64 0] 68) = w0 at *
  refine (H0 _).mono ?_
  rintro e w1 ⟨rfl, rfl⟩
  go_wp2_with fail
  refine (H8 _).mono ?_
  rintro e w1 ⟨rfl, rfl⟩
  go_wp2_with fail
  refine (H16 _).mono ?_
  rintro e w1 ⟨rfl, rfl⟩
  go_wp2_with fail
  refine (H24 _).mono ?_
  rintro e w1 ⟨rfl, rfl⟩
  clear H0 H8 H16 H24 hext hz4 hadd
  go_wp2_with fail
  refine region_tm [18, 19] [] [0, 1, 2, 0, 8, 16, 0, 64, 0, 256, 0, 1024, 0, 4096, 0, 16384, 32768, 76452, 0, 524287] [1048575, 1048574, 1048573, 1048575, 1048567, 1048559, 1048575, 1048511, 1048575, 1048319, 1048575, 1047551, 1048575, 1044479, 1048575, 1032191, 1015807, 972123, 0, 0] [0, 1, 3, 0, 8, 24, 0, 64, 0, 256, 0, 1024, 0, 4096, 0, 16384, 49152, 131071, 0, 524287] 1048575 (.quiet 0 (.quiet 1 (.quiet 2 (.quiet 3 (.quiet 4 (.quiet 5 (.quiet 6 (.quiet 7 (.quiet 8 (.quiet 9 (.quiet 10 (.quiet 11 (.quiet 12 (.quiet 13 (.quiet 14 (.quiet 15 (.quiet 16 (.quiet 17 (.alt 18 (.alt 19 (.done) (.fin)) (.fin)))))))))))))))))))) (fun _ => True) (by as_aux_lemma => kernel_rfl) (by as_aux_lemma => kernel_rfl) (by as_aux_lemma => kernel_rfl) (by as_aux_lemma => kernel_rfl) (by as_aux_lemma => kernel_rfl) (by as_aux_lemma => kernel_rfl) (by as_aux_lemma => kernel_rfl) (by as_aux_lemma => kernel_rfl) trivial ?_
  repeat' (first
    | (refine t_float (v := ?_) (a' := ?_) rfl rfl rfl ?_ ?_ ?_
       rotate_left 2
       · (intro w' _; go_simp; with_reducible rfl)
       · (simp only [Act.put, List.setIfInBounds_toArray, List.set_cons_zero, List.set_cons_succ]; rfl))
    | (refine t_bound (v := ?_) (a' := ?_) rfl rfl rfl ?_ ?_ ?_
       rotate_left 2
       · (go_simp; with_reducible rfl)
       · (simp only [Act.put, List.setIfInBounds_toArray, List.set_cons_zero, List.set_cons_succ]; rfl))
    | exact t_fin
    | (refine t_acts rfl rfl (fun K hK => ?_) ?_
       go_simp
       refine hK.out _ _ trivial ?_
       clear hK K))
  all_goals (refine t_done ?_)
  all_goals
    have hM := (Blk.new w0 #[.int .i64 r.kind, .int .i64 r.who, .int .i64 r.gen, .int .i64 r.seq, .int .i64 r.epoch, .int .i64 r.value, .int .i64 r.metric] 68).drew
    have hT1 := (hT.alloc (.cells #[.int .i64 r.kind, .int .i64 r.who, .int .i64 r.gen, .int .i64 r.seq, .int .i64 r.epoch, .int .i64 r.value, .int .i64 r.metric] 68)).drew
    have hF1 := (hF.alloc (.cells #[.int .i64 r.kind, .int .i64 r.who, .int .i64 r.gen, .int .i64 r.seq, .int .i64 r.epoch, .int .i64 r.value, .int .i64 r.metric] 68)).drew
    generalize (w0.alloc (.cells #[.int .i64 r.kind, .int .i64 r.who, .int .i64 r.gen, .int .i64 r.seq, .int .i64 r.epoch, .int .i64 r.value, .int .i64 r.metric] 68)).drew = w1 at *
    obtain ⟨m0, m1, m2, m3, m4, m5, m6⟩ := msgAt_blk (m := r) hM
    clear hT hF hgn h8 h16 h24 hk1 hk2 hk3 hb1 hb2 hb3
    go_wp2_with fail
    cases hmay : mayM r
    · have HX := hbad hmay
      have HP := rputm_bad r w1 hmay
      unfold msgv at HP
      refine HP.mono ?_
      rintro e w2 ⟨rfl, hf2⟩
      have hT2 := hT1.kept hf2 (fun f => f)
      have hF2 := hF1.trans hf2
      clear m0 m1 m2 m3 m4 m5 m6 hbad hdiff hgood
      obtain ⟨hv, hc⟩ := HX
      have b0 : w2.cell? ⟨w.heap.size, 0, none⟩ = some (.int .i64 0) := hT2.cell_of rfl
      have b1 : w2.cell? ⟨w.heap.size, 1, none⟩ = some (.int .i64 0) := hT2.cell_of rfl
      have b2 : w2.cell? ⟨w.heap.size, 2, none⟩ = some (.int .i64 0) := hT2.cell_of rfl
      have b3 : w2.cell? ⟨w.heap.size, 3, none⟩ = some (.int .i64 0) := hT2.cell_of rfl
      have b4 : w2.cell? ⟨w.heap.size, 4, none⟩ = some (.int .i64 0) := hT2.cell_of rfl
      have b5 : w2.cell? ⟨w.heap.size, 5, none⟩ = some (.int .i64 0) := hT2.cell_of rfl
      have b6 : w2.cell? ⟨w.heap.size, 6, none⟩ = some (.int .i64 0) := hT2.cell_of rfl
      have f0 := hT2.free 0
      have f1 := hT2.free 1
      have f2 := hT2.free 2
      have f3 := hT2.free 3
      have f4 := hT2.free 4
      have f5 := hT2.free 5
      have f6 := hT2.free 6
      go_wp2_with fail
      have hb3 := blk7 hT2 (.int .i64 0) (.int .i64 0) (.int .i64 0) (.int .i64 0) (.int .i64 0) (.int .i64 0) (.int .i64 0)
      have hF3 := fr7 hF2 (b := w.heap.size) (fun h => by omega) (.int .i64 0) (.int .i64 0) (.int .i64 0) (.int .i64 0) (.int .i64 0) (.int .i64 0) (.int .i64 0)
      generalize ((((((w2.setCell ⟨w.heap.size, 0, none⟩ (.int .i64 0)).setCell ⟨w.heap.size, 1, none⟩ (.int .i64 0)).setCell ⟨w.heap.size, 2, none⟩ (.int .i64 0)).setCell ⟨w.heap.size, 3, none⟩ (.int .i64 0)).setCell ⟨w.heap.size, 4, none⟩ (.int .i64 0)).setCell ⟨w.heap.size, 5, none⟩ (.int .i64 0)).setCell ⟨w.heap.size, 6, none⟩ (.int .i64 0) = wZ at *
      have d0 : wZ.cell? ⟨w.heap.size, 0, none⟩ = some (.int .i64 0) := hb3.cell_of rfl
      have d1 : wZ.cell? ⟨w.heap.size, 1, none⟩ = some (.int .i64 0) := hb3.cell_of rfl
      have d2 : wZ.cell? ⟨w.heap.size, 2, none⟩ = some (.int .i64 0) := hb3.cell_of rfl
      have d3 : wZ.cell? ⟨w.heap.size, 3, none⟩ = some (.int .i64 0) := hb3.cell_of rfl
      have d4 : wZ.cell? ⟨w.heap.size, 4, none⟩ = some (.int .i64 0) := hb3.cell_of rfl
      have d5 : wZ.cell? ⟨w.heap.size, 5, none⟩ = some (.int .i64 0) := hb3.cell_of rfl
      have d6 : wZ.cell? ⟨w.heap.size, 6, none⟩ = some (.int .i64 0) := hb3.cell_of rfl
      exact bodyPost_ret (v := .tuple #[.agg #[(.int .i64 0), (.int .i64 0), (.int .i64 0), (.int .i64 0), (.int .i64 0), (.int .i64 0), (.int .i64 0)], .int .i64 2]) (by simp [results, Try.results58, go_sem, d0, d1, d2, d3, d4, d5, d6]) rfl ⟨by rw [hv, hc]; rfl, hF3⟩
    · have HP := rputm_ok r w1 hmay
      unfold msgv at HP
      refine HP.mono ?_
      rintro e w2 ⟨rfl, hf2⟩
      have hT2 := hT1.kept hf2 (fun f => f)
      have hF2 := hF1.trans hf2
      have hM2 := hM.kept hf2 (fun f => f)
      clear m0 m1 m2 m3 m4 m5 m6 hM hT1 hF1 hf2
      cases hq : (msgB r == l) <;> rw [hq] at hEq
      case false =>
        have HX := hdiff hq
        clear hbad hdiff hgood
        obtain ⟨hv, hc⟩ := HX
        have b0 : w2.cell? ⟨w.heap.size, 0, none⟩ = some (.int .i64 0) := hT2.cell_of rfl
        have b1 : w2.cell? ⟨w.heap.size, 1, none⟩ = some (.int .i64 0) := hT2.cell_of rfl
        have b2 : w2.cell? ⟨w.heap.size, 2, none⟩ = some (.int .i64 0) := hT2.cell_of rfl
        have b3 : w2.cell? ⟨w.heap.size, 3, none⟩ = some (.int .i64 0) := hT2.cell_of rfl
        have b4 : w2.cell? ⟨w.heap.size, 4, none⟩ = some (.int .i64 0) := hT2.cell_of rfl
        have b5 : w2.cell? ⟨w.heap.size, 5, none⟩ = some (.int .i64 0) := hT2.cell_of rfl
        have b6 : w2.cell? ⟨w.heap.size, 6, none⟩ = some (.int .i64 0) := hT2.cell_of rfl
        have f0 := hT2.free 0
        have f1 := hT2.free 1
        have f2 := hT2.free 2
        have f3 := hT2.free 3
        have f4 := hT2.free 4
        have f5 := hT2.free 5
        have f6 := hT2.free 6
        go_wp2_with fail
        have hb3 := blk7 hT2 (.int .i64 0) (.int .i64 0) (.int .i64 0) (.int .i64 0) (.int .i64 0) (.int .i64 0) (.int .i64 0)
        have hF3 := fr7 hF2 (b := w.heap.size) (fun h => by omega) (.int .i64 0) (.int .i64 0) (.int .i64 0) (.int .i64 0) (.int .i64 0) (.int .i64 0) (.int .i64 0)
        generalize ((((((w2.setCell ⟨w.heap.size, 0, none⟩ (.int .i64 0)).setCell ⟨w.heap.size, 1, none⟩ (.int .i64 0)).setCell ⟨w.heap.size, 2, none⟩ (.int .i64 0)).setCell ⟨w.heap.size, 3, none⟩ (.int .i64 0)).setCell ⟨w.heap.size, 4, none⟩ (.int .i64 0)).setCell ⟨w.heap.size, 5, none⟩ (.int .i64 0)).setCell ⟨w.heap.size, 6, none⟩ (.int .i64 0) = wZ at *
        have d0 : wZ.cell? ⟨w.heap.size, 0, none⟩ = some (.int .i64 0) := hb3.cell_of rfl
        have d1 : wZ.cell? ⟨w.heap.size, 1, none⟩ = some (.int .i64 0) := hb3.cell_of rfl
        have d2 : wZ.cell? ⟨w.heap.size, 2, none⟩ = some (.int .i64 0) := hb3.cell_of rfl
        have d3 : wZ.cell? ⟨w.heap.size, 3, none⟩ = some (.int .i64 0) := hb3.cell_of rfl
        have d4 : wZ.cell? ⟨w.heap.size, 4, none⟩ = some (.int .i64 0) := hb3.cell_of rfl
        have d5 : wZ.cell? ⟨w.heap.size, 5, none⟩ = some (.int .i64 0) := hb3.cell_of rfl
        have d6 : wZ.cell? ⟨w.heap.size, 6, none⟩ = some (.int .i64 0) := hb3.cell_of rfl
        exact bodyPost_ret (v := .tuple #[.agg #[(.int .i64 0), (.int .i64 0), (.int .i64 0), (.int .i64 0), (.int .i64 0), (.int .i64 0), (.int .i64 0)], .int .i64 2]) (by simp [results, Try.results58, go_sem, d0, d1, d2, d3, d4, d5, d6]) rfl ⟨by rw [hv, hc]; rfl, hF3⟩
      case true =>
        have HX := hgood hmay hq
        clear hbad hdiff hgood
        obtain ⟨m0, m1, m2, m3, m4, m5, m6⟩ := msgAt_blk (m := r) hM2
        obtain ⟨hv, hc⟩ := HX
        have b0 : w2.cell? ⟨w.heap.size, 0, none⟩ = some (.int .i64 0) := hT2.cell_of rfl
        have b1 : w2.cell? ⟨w.heap.size, 1, none⟩ = some (.int .i64 0) := hT2.cell_of rfl
        have b2 : w2.cell? ⟨w.heap.size, 2, none⟩ = some (.int .i64 0) := hT2.cell_of rfl
        have b3 : w2.cell? ⟨w.heap.size, 3, none⟩ = some (.int .i64 0) := hT2.cell_of rfl
        have b4 : w2.cell? ⟨w.heap.size, 4, none⟩ = some (.int .i64 0) := hT2.cell_of rfl
        have b5 : w2.cell? ⟨w.heap.size, 5, none⟩ = some (.int .i64 0) := hT2.cell_of rfl
        have b6 : w2.cell? ⟨w.heap.size, 6, none⟩ = some (.int .i64 0) := hT2.cell_of rfl
        have f0 := hT2.free 0
        have f1 := hT2.free 1
        have f2 := hT2.free 2
        have f3 := hT2.free 3
        have f4 := hT2.free 4
        have f5 := hT2.free 5
        have f6 := hT2.free 6
        go_wp2_with fail
        have hb3 := blk7 hT2 (.int .i64 r.kind) (.int .i64 r.who) (.int .i64 r.gen) (.int .i64 r.seq) (.int .i64 r.epoch) (.int .i64 r.value) (.int .i64 r.metric)
        have hF3 := fr7 hF2 (b := w.heap.size) (fun h => by omega) (.int .i64 r.kind) (.int .i64 r.who) (.int .i64 r.gen) (.int .i64 r.seq) (.int .i64 r.epoch) (.int .i64 r.value) (.int .i64 r.metric)
        generalize ((((((w2.setCell ⟨w.heap.size, 0, none⟩ (.int .i64 r.kind)).setCell ⟨w.heap.size, 1, none⟩ (.int .i64 r.who)).setCell ⟨w.heap.size, 2, none⟩ (.int .i64 r.gen)).setCell ⟨w.heap.size, 3, none⟩ (.int .i64 r.seq)).setCell ⟨w.heap.size, 4, none⟩ (.int .i64 r.epoch)).setCell ⟨w.heap.size, 5, none⟩ (.int .i64 r.value)).setCell ⟨w.heap.size, 6, none⟩ (.int .i64 r.metric) = wZ at *
        have d0 : wZ.cell? ⟨w.heap.size, 0, none⟩ = some (.int .i64 r.kind) := hb3.cell_of rfl
        have d1 : wZ.cell? ⟨w.heap.size, 1, none⟩ = some (.int .i64 r.who) := hb3.cell_of rfl
        have d2 : wZ.cell? ⟨w.heap.size, 2, none⟩ = some (.int .i64 r.gen) := hb3.cell_of rfl
        have d3 : wZ.cell? ⟨w.heap.size, 3, none⟩ = some (.int .i64 r.seq) := hb3.cell_of rfl
        have d4 : wZ.cell? ⟨w.heap.size, 4, none⟩ = some (.int .i64 r.epoch) := hb3.cell_of rfl
        have d5 : wZ.cell? ⟨w.heap.size, 5, none⟩ = some (.int .i64 r.value) := hb3.cell_of rfl
        have d6 : wZ.cell? ⟨w.heap.size, 6, none⟩ = some (.int .i64 r.metric) := hb3.cell_of rfl
        exact bodyPost_ret (v := .tuple #[.agg #[(.int .i64 r.kind), (.int .i64 r.who), (.int .i64 r.gen), (.int .i64 r.seq), (.int .i64 r.epoch), (.int .i64 r.value), (.int .i64 r.metric)], .int .i64 0]) (by simp [results, Try.results58, go_sem, d0, d1, d2, d3, d4, d5, d6]) rfl ⟨by rw [hv, hc]; rfl, hF3⟩
end Go.Proofs.Ytandenkoejbloaa
