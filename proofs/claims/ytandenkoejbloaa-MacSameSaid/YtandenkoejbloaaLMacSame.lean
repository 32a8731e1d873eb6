/- For every input the law quorumitelaw2.MacSame returns true: tags are one just if both words are; they come back from their bytes, and from no other number of bytes. Conditions: none. -/
import Derived.Test.YtandenkoejbloaaTold2
import Derived.Test.YtandenkoejbloaaFacts
import Derived.Test.YtandenkoejbloaaRegS
namespace Go.Proofs.Ytandenkoejbloaa
open Go Go.RowKit

theorem eq_arr2 (a b c d : Int) (w : World) : (Op.equalIn 10000 23 (.agg #[.int .u64 a, .int .u64 b]) (.agg #[.int .u64 c, .int .u64 d])).run Try.prog w = .ok (a == c && b == d) w := by
  have u22 := Try.underlying22
  rw [show (10000 : Nat) = 9999 + 1 from rfl, Op.equalIn]
  simp only [Sem.run_bind, run_underlying Try.underlying23, Result.andThen_ok]
  simp only [Std.Legacy.Range.forIn_eq_forIn_range', Std.Legacy.Range.size, Nat.sub_zero, Nat.add_sub_cancel, Nat.div_one, List.range'_succ, List.range'_zero, List.forIn_cons, List.forIn_nil]
  go_simp
  by_cases h1 : a = c <;> by_cases h2 : b = d <;> simp [h1, h2]
attribute [go_sem] eq_arr2

set_option maxRecDepth 100000 in
set_option maxHeartbeats 30000000 in
theorem walk_MacSame (w : World) (t s : W × W) (v1 : Value) (l : List UInt8) (h1 : Rd w v1 (l.map bv)) :
    Calls Try.prog 11 #[.agg #[.int .u64 (u t.1), .int .u64 (u t.2)], .agg #[.int .u64 (u s.1), .int .u64 (u s.2)], v1] w fun e w' => e = .returned (.bool true) ∧ Fr none_ w w' := by
  have HSm : ∀ wa : World, Calls Try.prog 41 #[keyv t, keyv s] wa fun e w' => e = .returned (.bool ((u t.1 == u s.1) && (u t.2 == u s.2))) ∧ Fr none_ wa w' := fun wa => by rw [u_beq, u_beq]; exact msame_any t s wa
  have HSt : ∀ wa : World, Calls Try.prog 41 #[keyv t, keyv t] wa fun e w' => e = .returned (.bool true) ∧ Fr none_ wa w' := fun wa => by have := msame_any t t wa; simpa only [beq_self_eq_true, Bool.and_self] using this
  have hR := (h1.alloc (.cells #[.int .u64 (u t.1), .int .u64 (u t.2)] 23)).alloc (.cells #[.int .u64 (u s.1), .int .u64 (u s.2)] 23)
  obtain ⟨ao, cap, rfl, hc1, hm1, _⟩ := h1
  simp only [List.length_map] at *
  unfold maxLen at hm1
  have hB := (Blk.new w #[.int .u64 (u t.1), .int .u64 (u t.2)] 23).alloc (.cells #[.int .u64 (u s.1), .int .u64 (u s.2)] 23)
  have hS := Blk.new (w.alloc (.cells #[.int .u64 (u t.1), .int .u64 (u t.2)] 23)) #[.int .u64 (u s.1), .int .u64 (u s.2)] 23
  rw [World.size_alloc] at hS
  have hF := ((Fr.refl none_ w).alloc (.cells #[.int .u64 (u t.1), .int .u64 (u t.2)] 23)).alloc (.cells #[.int .u64 (u s.1), .int .u64 (u s.2)] 23)
  go_enter Try.func11, Try.ntmps11
  by_cases hbig : 20 < l.length
  · have hd : decide ((20 : Int) < (l.length : Int)) = true := by simp; omega
    have HF := Lib.hid hF
    clear hB hS hF hR
    go_wp2_with fail
    refine (told2_any _).mono ?_
    rintro e w3 ⟨rfl, hf⟩
    go_wp2
    go_ret
    exact ⟨rfl, HF.out.trans hf⟩
  have hd : decide ((20 : Int) < (l.length : Int)) = false := by simp; omega
  generalize hwa : (w.alloc (.cells #[.int .u64 (u t.1), .int .u64 (u t.2)] 23)).alloc (.cells #[.int .u64 (u s.1), .int .u64 (u s.2)] 23) = wa at *
  have HB := Lib.hid (mbytes_any t wa)
  unfold keyv at *
  have HF := Lib.hid hF
  have HR := Lib.hid hR
  clear hF hR
  have t0 : wa.cell? ⟨w.heap.size, 0, none⟩ = some (.int .u64 (u t.1)) := hB.cell_of rfl
  have t1 : wa.cell? ⟨w.heap.size, 1, none⟩ = some (.int .u64 (u t.2)) := hB.cell_of rfl
  go_wp2_with fail
  refine HB.out.mono ?_
  rintro e wb ⟨vb, rfl, hob, hfb⟩
  have hB2 := hB.kept hfb (fun f => f)
  have hS2 := hS.kept hfb (fun f => f)
  have HF2 := Lib.hid (HF.out.trans hfb)
  have HR2 := Lib.hid (HR.out.kept hfb (fun _ _ _ _ f => f))
  clear hB hS HF HR hfb HB t0 t1
  go_wp2_with fail
  have hft := from_ok vb (tagB t) wb hob.rd (tagB_length t)
  rw [show (wordAt (tagB t) 0, wordAt (tagB t) 8) = t from Prod.ext (word_tag t).1 (word_tag t).2] at hft
  unfold keyv at hft
  refine hft.mono ?_
  rintro e wc ⟨rfl, hfc⟩
  have hB3 := (hB2.kept hfc (fun f => f)).alloc (.cells #[.int .u64 (u t.1), .int .u64 (u t.2)] 52)
  have hS3 := (hS2.kept hfc (fun f => f)).alloc (.cells #[.int .u64 (u t.1), .int .u64 (u t.2)] 52)
  have hX3 := Blk.new wc #[.int .u64 (u t.1), .int .u64 (u t.2)] 52
  have HF3 := Lib.hid ((HF2.out.trans hfc).alloc (.cells #[.int .u64 (u t.1), .int .u64 (u t.2)] 52))
  have HR3 := Lib.hid ((HR2.out.kept hfc (fun _ _ _ _ f => f)).alloc (.cells #[.int .u64 (u t.1), .int .u64 (u t.2)] 52))
  clear hB2 hS2 HF2 HR2 hfc hob hft
  go_wp2_with fail
  generalize wc.alloc (.cells #[.int .u64 (u t.1), .int .u64 (u t.2)] 52) = wd at *
  generalize wc.heap.size = c at *
  by_cases hlen : l.length = 16
  · have hl1 : ((l.length : Int) == 16) = true := by simp; omega
    have hy := tagB_word l hlen
    have hfr := from_ok _ l wd HR3.out hlen
    generalize (wordAt l 0, wordAt l 8) = y at *
    unfold keyv at hfr
    have hE : ((bs (tagB y)).toList == (bs l).toList) = true := by rw [hy]; simp
    clear hy hlen
    refine hfr.mono ?_
    rintro e we ⟨rfl, hfe⟩
    have hB4 := (hB3.kept hfe (fun f => f)).alloc (.cells #[.int .u64 (u y.1), .int .u64 (u y.2)] 52)
    have hS4 := (hS3.kept hfe (fun f => f)).alloc (.cells #[.int .u64 (u y.1), .int .u64 (u y.2)] 52)
    have hX4 := (hX3.kept hfe (fun f => f)).alloc (.cells #[.int .u64 (u y.1), .int .u64 (u y.2)] 52)
    have hY4 := Blk.new we #[.int .u64 (u y.1), .int .u64 (u y.2)] 52
    have HF4 := Lib.hid ((HF3.out.trans hfe).alloc (.cells #[.int .u64 (u y.1), .int .u64 (u y.2)] 52))
    have HR4 := Lib.hid ((HR3.out.kept hfe (fun _ _ _ _ f => f)).alloc (.cells #[.int .u64 (u y.1), .int .u64 (u y.2)] 52))
    clear hB3 hS3 hX3 HF3 HR3 hfe hfr
    go_wp2_with fail
    generalize we.alloc (.cells #[.int .u64 (u y.1), .int .u64 (u y.2)] 52) = w0 at *
    generalize we.heap.size = d at *
    have hb1 := hB4.lt
    have hb2 := hS4.lt
    have hb3 := hX4.lt
    have hb4 := hY4.lt
    have HU1 := Lib.hid (show w0.cell? ⟨w.heap.size, 0, none⟩ = some (.int .u64 (u t.1)) ∧ w0.cell? ⟨w.heap.size, 1, none⟩ = some (.int .u64 (u t.2)) ∧ w0.cell? ⟨w.heap.size + 1, 0, none⟩ = some (.int .u64 (u s.1)) ∧ w0.cell? ⟨w.heap.size + 1, 1, none⟩ = some (.int .u64 (u s.2)) from ⟨hB4.cell_of rfl, hB4.cell_of rfl, hS4.cell_of rfl, hS4.cell_of rfl⟩)
    have HU2 := Lib.hid (show w0.cell? ⟨c, 0, none⟩ = some (.int .u64 (u t.1)) ∧ w0.cell? ⟨c, 1, none⟩ = some (.int .u64 (u t.2)) ∧ w0.cell? ⟨d, 0, none⟩ = some (.int .u64 (u y.1)) ∧ w0.cell? ⟨d, 1, none⟩ = some (.int .u64 (u y.2)) from ⟨hX4.cell_of rfl, hX4.cell_of rfl, hY4.cell_of rfl, hY4.cell_of rfl⟩)
    clear hB4 hS4 hX4 hY4
    refine region_tm [0, 4, 13, 37, 38, 40] [2, 3, 11, 12, 20, 21, 48] [0, 1, 2, 2, 14, 2, 2, 98, 146, 258, 528, 1024, 1024, 7168, 9216, 24576, 32768, 98304, 163840, 294912, 524288, 524288, 3670016, 4718592, 8912896, 16777216, 50331648, 16777216, 150994944, 285212672, 620756992, 1090519040, 2164260864, 4294967296, 12884901888, 21474836480, 34359738368, 103079215104, 171798691840, 34359738368, 584115552256, 1408749273088, 2237677961216, 4402341478400, 8933531975680, 17592186044416, 52776558133248, 87960930222080, 140737488355328, 140737488355328, 985162418487296, 1284229581242368, 2269391999729664, 9007199254740991] [0, 18014398509481982, 18014398509481981, 18014398509481981, 0, 18014398509481981, 18014398509481981, 18014398509481885, 18014398509481837, 18014398509481725, 18014398509481471, 18014398509480959, 18014398509480959, 0, 18014398509472767, 18014398509465599, 18014398509449215, 18014398509383679, 18014398509318143, 18014398509219839, 18014398508957695, 18014398508957695, 18014398505811967, 18014398504763391, 18014398501093375, 18014398492704767, 18014398459150335, 18014398492704767, 18014398358487039, 18014398224269311, 18014397888724991, 18014397418962943, 18014396361998335, 18014394214514687, 18014385624580095, 18014377034645503, 18014364149743615, 0, 0, 18014364149743615, 0, 18012989760208895, 18012160831520767, 18009996168003583, 18005602416459775, 17996806323437567, 17961621951348735, 17926437579259903, 17873661021126655, 17873661021126655, 17029236090994687, 16730168928239615, 15745006509752319, 13510798882111487] [0, 1, 3, 3, 15, 3, 3, 99, 255, 511, 1023, 2047, 2047, 8191, 16383, 32767, 65535, 131071, 262143, 524287, 1048575, 1048575, 4194303, 8388607, 16777215, 33554431, 67108863, 33554431, 167772159, 436207615, 1073741823, 2147483647, 4294967295, 8589934591, 17179869183, 34359738367, 68719476735, 137438953471, 274877906943, 68719476735, 618475290623, 2199023255551, 4398046511103, 8796093022207, 17592186044415, 35184372088831, 70368744177663, 140737488355327, 281474976710655, 281474976710655, 1125899906842623, 2251799813685247, 4503599627370495, 9007199254740991] 18014398509481983 (.alt 0 (.quiet 1 (.quiet 2 (.quiet 3 (.quiet 5 (.quiet 6 (.quiet 7 (.alt 4 (.quiet 8 (.quiet 9 (.quiet 10 (.quiet 11 (.quiet 12 (.alt 13 (.quiet 14 (.quiet 15 (.quiet 16 (.quiet 17 (.quiet 18 (.quiet 19 (.quiet 20 (.quiet 21 (.quiet 22 (.quiet 23 (.quiet 24 (.quiet 25 (.quiet 26 (.quiet 27 (.quiet 28 (.quiet 29 (.quiet 30 (.quiet 31 (.quiet 32 (.quiet 33 (.quiet 34 (.quiet 35 (.quiet 36 (.quiet 39 (.alt 37 (.alt 38 (.alt 40 (.quiet 41 (.quiet 42 (.quiet 43 (.quiet 44 (.quiet 45 (.quiet 46 (.quiet 47 (.quiet 48 (.quiet 49 (.quiet 50 (.quiet 51 (.quiet 52 (.quiet 53 .done))))))))))))) (.fin)) (.alt 40 (.alt 38 (.quiet 41 (.quiet 42 (.quiet 43 (.quiet 44 (.quiet 45 (.quiet 46 (.quiet 47 (.quiet 48 (.quiet 49 (.quiet 50 (.quiet 51 (.quiet 52 (.quiet 53 .done))))))))))))) (.fin)) (.fin))) (.alt 40 (.alt 37 (.alt 38 (.quiet 41 (.quiet 42 (.quiet 43 (.quiet 44 (.quiet 45 (.quiet 46 (.quiet 47 (.quiet 48 (.quiet 49 (.quiet 50 (.quiet 51 (.quiet 52 (.quiet 53 .done))))))))))))) (.fin)) (.fin)) (.fin))))))))))))))))))))))))))) (.fin))))))) (.fin)))))))) (.fin)) (fun w' => (w'.cell? ⟨w.heap.size, 0, none⟩ = some (.int .u64 (u t.1)) ∧ w'.cell? ⟨w.heap.size, 1, none⟩ = some (.int .u64 (u t.2)) ∧ w'.cell? ⟨w.heap.size + 1, 0, none⟩ = some (.int .u64 (u s.1)) ∧ w'.cell? ⟨w.heap.size + 1, 1, none⟩ = some (.int .u64 (u s.2))) ∧ (w'.cell? ⟨c, 0, none⟩ = some (.int .u64 (u t.1)) ∧ w'.cell? ⟨c, 1, none⟩ = some (.int .u64 (u t.2)) ∧ w'.cell? ⟨d, 0, none⟩ = some (.int .u64 (u y.1)) ∧ w'.cell? ⟨d, 1, none⟩ = some (.int .u64 (u y.2)))) (by as_aux_lemma => kernel_rfl) (by as_aux_lemma => kernel_rfl) (by as_aux_lemma => kernel_rfl) (by as_aux_lemma => kernel_rfl) (by as_aux_lemma => kernel_rfl) (by as_aux_lemma => kernel_rfl) (by as_aux_lemma => kernel_rfl) (by as_aux_lemma => kernel_rfl) (by first | with_reducible exact ⟨cells4_kept hg4 hb1 hb2 HU1.out, cells4_kept hg4 hb3 hb4 HU2.out⟩ | with_reducible exact ⟨cells4_kept hg3 hb1 hb2 HU1.out, cells4_kept hg3 hb3 hb4 HU2.out⟩ | with_reducible exact ⟨cells4_kept hg2 hb1 hb2 HU1.out, cells4_kept hg2 hb3 hb4 HU2.out⟩ | with_reducible exact ⟨cells4_kept hg1 hb1 hb2 HU1.out, cells4_kept hg1 hb3 hb4 HU2.out⟩ | exact ⟨HU1.out, HU2.out⟩) ?_
    repeat' (first
      | (refine t_float (v := ?_) (a' := ?_) rfl rfl rfl ?_ ?_ ?_
         rotate_left 2
         · (intro w' hU; (try dsimp only at hU); go_simp; with_reducible rfl)
         · (simp only [Act.put, List.setIfInBounds_toArray, List.set_cons_zero, List.set_cons_succ]; rfl))
      | (refine t_bound (v := ?_) (a' := ?_) rfl rfl rfl ?_ ?_ ?_
         rotate_left 2
         · (go_simp; with_reducible rfl)
         · (simp only [Act.put, List.setIfInBounds_toArray, List.set_cons_zero, List.set_cons_succ]; rfl))
      | (refine t_skip (a' := ?_) rfl rfl ?_ ?_
         rotate_left 1
         · (simp only [Act.put, List.setIfInBounds_toArray, List.set_cons_zero, List.set_cons_succ]; rfl))
      | exact t_fin
      | (refine t_acts rfl rfl (fun K hK => ?_) ?_
         first | ((first | (refine wp_str _ _ 25 9 5 rfl Try.underlying25 Try.underlying5 Try.underlying9 v4 (tagB y) rfl ho4.rd ?_) | (refine wp_str _ _ 25 9 5 rfl Try.underlying25 Try.underlying5 Try.underlying9 (.slice ao l.length cap) l rfl (by first | exact HR4.out.kept hg4 (fun _ _ _ _ f => f) | exact HR4.out.kept hg3 (fun _ _ _ _ f => f)) ?_)); simp only [Act.put, List.setIfInBounds_toArray, List.set_cons_zero, List.set_cons_succ]) | (go_simp; try (go_wp2_with (first | (go_at_call 40; have hq := hf3; refine (mbytes_any y _).mono ?_; clear hq; rintro e w4 ⟨v4, rfl, ho4, hf4⟩; have hg4 := hg3.trans hf4) | (go_at_call 41; have hq := hf2; refine (HSt _).mono ?_; clear hq; rintro e w3 ⟨rfl, hf3⟩; have hg3 := hg2.trans hf3; obtain ⟨z0, z1, z2, z3⟩ := cells4_kept hg3 hb1 hb2 HU1.out; obtain ⟨z4, z5, z6, z7⟩ := cells4_kept hg3 hb3 hb4 HU2.out) | (go_at_call 41; have hq := hf1; refine (HSm _).mono ?_; clear hq; rintro e w2 ⟨rfl, hf2⟩; have hg2 := hg1.trans hf2; obtain ⟨y0, y1, y2, y3⟩ := cells4_kept hg2 hb1 hb2 HU1.out) | (go_at_call 39; refine (told2_any _).mono ?_; rintro e w1 ⟨rfl, hf1⟩; have hg1 := (Fr.refl none_ w0).drew.trans hf1; obtain ⟨x0, x1, x2, x3⟩ := cells4_kept hg1 hb1 hb2 HU1.out))))
         refine hK.out _ _ (by first | with_reducible exact ⟨cells4_kept hg4 hb1 hb2 HU1.out, cells4_kept hg4 hb3 hb4 HU2.out⟩ | with_reducible exact ⟨cells4_kept hg3 hb1 hb2 HU1.out, cells4_kept hg3 hb3 hb4 HU2.out⟩ | with_reducible exact ⟨cells4_kept hg2 hb1 hb2 HU1.out, cells4_kept hg2 hb3 hb4 HU2.out⟩ | with_reducible exact ⟨cells4_kept hg1 hb1 hb2 HU1.out, cells4_kept hg1 hb3 hb4 HU2.out⟩ | exact ⟨HU1.out, HU2.out⟩) ?_
         clear hK K))
    all_goals (refine t_done ?_)
    all_goals
      go_wp2
      go_ret
      exact ⟨rfl, HF4.out.trans hg4⟩
  · have hl1 : ((l.length : Int) == 16) = false := by simp; omega
    have hfr := from_bad _ l wd HR3.out hlen
    rw [show keyv (0, 0) = Value.agg #[.int .u64 0, .int .u64 0] from rfl] at hfr
    refine hfr.mono ?_
    rintro e we ⟨rfl, hfe⟩
    have hB4 := (hB3.kept hfe (fun f => f)).alloc (.cells #[.int .u64 0, .int .u64 0] 52)
    have hS4 := (hS3.kept hfe (fun f => f)).alloc (.cells #[.int .u64 0, .int .u64 0] 52)
    have hX4 := (hX3.kept hfe (fun f => f)).alloc (.cells #[.int .u64 0, .int .u64 0] 52)
    have hY4 := Blk.new we #[.int .u64 0, .int .u64 0] 52
    have HF4 := Lib.hid ((HF3.out.trans hfe).alloc (.cells #[.int .u64 0, .int .u64 0] 52))
    clear hB3 hS3 hX3 HF3 HR3 hfe hfr
    go_wp2_with fail
    generalize we.alloc (.cells #[.int .u64 0, .int .u64 0] 52) = w0 at *
    generalize we.heap.size = d at *
    have hb1 := hB4.lt
    have hb2 := hS4.lt
    have hb3 := hX4.lt
    have hb4 := hY4.lt
    have HU1 := Lib.hid (show w0.cell? ⟨w.heap.size, 0, none⟩ = some (.int .u64 (u t.1)) ∧ w0.cell? ⟨w.heap.size, 1, none⟩ = some (.int .u64 (u t.2)) ∧ w0.cell? ⟨w.heap.size + 1, 0, none⟩ = some (.int .u64 (u s.1)) ∧ w0.cell? ⟨w.heap.size + 1, 1, none⟩ = some (.int .u64 (u s.2)) from ⟨hB4.cell_of rfl, hB4.cell_of rfl, hS4.cell_of rfl, hS4.cell_of rfl⟩)
    have HU2 := Lib.hid (show w0.cell? ⟨c, 0, none⟩ = some (.int .u64 (u t.1)) ∧ w0.cell? ⟨c, 1, none⟩ = some (.int .u64 (u t.2)) ∧ w0.cell? ⟨d, 0, none⟩ = some (.int .u64 0) ∧ w0.cell? ⟨d, 1, none⟩ = some (.int .u64 0) from ⟨hX4.cell_of rfl, hX4.cell_of rfl, hY4.cell_of rfl, hY4.cell_of rfl⟩)
    clear hB4 hS4 hX4 hY4
    refine region_tm [0, 4, 13, 37, 38, 40] [2, 3, 11, 12, 20, 21, 48] [0, 1, 2, 2, 14, 2, 2, 98, 146, 258, 528, 1024, 1024, 7168, 9216, 24576, 32768, 98304, 163840, 294912, 524288, 524288, 3670016, 4718592, 8912896, 16777216, 50331648, 16777216, 150994944, 285212672, 620756992, 1090519040, 2164260864, 4294967296, 12884901888, 21474836480, 34359738368, 103079215104, 171798691840, 34359738368, 584115552256, 1408749273088, 2237677961216, 4402341478400, 8933531975680, 17592186044416, 52776558133248, 87960930222080, 140737488355328, 140737488355328, 985162418487296, 1284229581242368, 2269391999729664, 9007199254740991] [0, 18014398509481982, 18014398509481981, 18014398509481981, 0, 18014398509481981, 18014398509481981, 18014398509481885, 18014398509481837, 18014398509481725, 18014398509481471, 18014398509480959, 18014398509480959, 0, 18014398509472767, 18014398509465599, 18014398509449215, 18014398509383679, 18014398509318143, 18014398509219839, 18014398508957695, 18014398508957695, 18014398505811967, 18014398504763391, 18014398501093375, 18014398492704767, 18014398459150335, 18014398492704767, 18014398358487039, 18014398224269311, 18014397888724991, 18014397418962943, 18014396361998335, 18014394214514687, 18014385624580095, 18014377034645503, 18014364149743615, 0, 0, 18014364149743615, 0, 18012989760208895, 18012160831520767, 18009996168003583, 18005602416459775, 17996806323437567, 17961621951348735, 17926437579259903, 17873661021126655, 17873661021126655, 17029236090994687, 16730168928239615, 15745006509752319, 13510798882111487] [0, 1, 3, 3, 15, 3, 3, 99, 255, 511, 1023, 2047, 2047, 8191, 16383, 32767, 65535, 131071, 262143, 524287, 1048575, 1048575, 4194303, 8388607, 16777215, 33554431, 67108863, 33554431, 167772159, 436207615, 1073741823, 2147483647, 4294967295, 8589934591, 17179869183, 34359738367, 68719476735, 137438953471, 274877906943, 68719476735, 618475290623, 2199023255551, 4398046511103, 8796093022207, 17592186044415, 35184372088831, 70368744177663, 140737488355327, 281474976710655, 281474976710655, 1125899906842623, 2251799813685247, 4503599627370495, 9007199254740991] 18014398509481983 (.alt 0 (.quiet 1 (.quiet 2 (.quiet 3 (.quiet 5 (.quiet 6 (.quiet 7 (.alt 4 (.quiet 8 (.quiet 9 (.quiet 10 (.quiet 11 (.quiet 12 (.alt 13 (.quiet 14 (.quiet 15 (.quiet 16 (.quiet 17 (.quiet 18 (.quiet 19 (.quiet 20 (.quiet 21 (.quiet 22 (.quiet 23 (.quiet 24 (.quiet 25 (.quiet 26 (.quiet 27 (.quiet 28 (.quiet 29 (.quiet 30 (.quiet 31 (.quiet 32 (.quiet 33 (.quiet 34 (.quiet 35 (.quiet 36 (.quiet 39 (.alt 37 (.alt 38 (.alt 40 (.quiet 41 (.quiet 42 (.quiet 43 (.quiet 44 (.quiet 45 (.quiet 46 (.quiet 47 (.quiet 48 (.quiet 49 (.quiet 50 (.quiet 51 (.quiet 52 (.quiet 53 .done))))))))))))) (.fin)) (.alt 40 (.alt 38 (.quiet 41 (.quiet 42 (.quiet 43 (.quiet 44 (.quiet 45 (.quiet 46 (.quiet 47 (.quiet 48 (.quiet 49 (.quiet 50 (.quiet 51 (.quiet 52 (.quiet 53 .done))))))))))))) (.fin)) (.fin))) (.alt 40 (.alt 37 (.alt 38 (.quiet 41 (.quiet 42 (.quiet 43 (.quiet 44 (.quiet 45 (.quiet 46 (.quiet 47 (.quiet 48 (.quiet 49 (.quiet 50 (.quiet 51 (.quiet 52 (.quiet 53 .done))))))))))))) (.fin)) (.fin)) (.fin))))))))))))))))))))))))))) (.fin))))))) (.fin)))))))) (.fin)) (fun w' => (w'.cell? ⟨w.heap.size, 0, none⟩ = some (.int .u64 (u t.1)) ∧ w'.cell? ⟨w.heap.size, 1, none⟩ = some (.int .u64 (u t.2)) ∧ w'.cell? ⟨w.heap.size + 1, 0, none⟩ = some (.int .u64 (u s.1)) ∧ w'.cell? ⟨w.heap.size + 1, 1, none⟩ = some (.int .u64 (u s.2))) ∧ (w'.cell? ⟨c, 0, none⟩ = some (.int .u64 (u t.1)) ∧ w'.cell? ⟨c, 1, none⟩ = some (.int .u64 (u t.2)) ∧ w'.cell? ⟨d, 0, none⟩ = some (.int .u64 0) ∧ w'.cell? ⟨d, 1, none⟩ = some (.int .u64 0))) (by as_aux_lemma => kernel_rfl) (by as_aux_lemma => kernel_rfl) (by as_aux_lemma => kernel_rfl) (by as_aux_lemma => kernel_rfl) (by as_aux_lemma => kernel_rfl) (by as_aux_lemma => kernel_rfl) (by as_aux_lemma => kernel_rfl) (by as_aux_lemma => kernel_rfl) (by first | with_reducible exact ⟨cells4_kept hg3 hb1 hb2 HU1.out, cells4_kept hg3 hb3 hb4 HU2.out⟩ | with_reducible exact ⟨cells4_kept hg2 hb1 hb2 HU1.out, cells4_kept hg2 hb3 hb4 HU2.out⟩ | with_reducible exact ⟨cells4_kept hg1 hb1 hb2 HU1.out, cells4_kept hg1 hb3 hb4 HU2.out⟩ | exact ⟨HU1.out, HU2.out⟩) ?_
    repeat' (first
      | (refine t_float (v := ?_) (a' := ?_) rfl rfl rfl ?_ ?_ ?_
         rotate_left 2
         · (intro w' hU; (try dsimp only at hU); go_simp; with_reducible rfl)
         · (simp only [Act.put, List.setIfInBounds_toArray, List.set_cons_zero, List.set_cons_succ]; rfl))
      | (refine t_bound (v := ?_) (a' := ?_) rfl rfl rfl ?_ ?_ ?_
         rotate_left 2
         · (go_simp; with_reducible rfl)
         · (simp only [Act.put, List.setIfInBounds_toArray, List.set_cons_zero, List.set_cons_succ]; rfl))
      | (refine t_skip (a' := ?_) rfl rfl ?_ ?_
         rotate_left 1
         · (simp only [Act.put, List.setIfInBounds_toArray, List.set_cons_zero, List.set_cons_succ]; rfl))
      | (refine t_actskip (a' := ?_) rfl rfl ?_ (by first | with_reducible exact ⟨cells4_kept hg3 hb1 hb2 HU1.out, cells4_kept hg3 hb3 hb4 HU2.out⟩ | with_reducible exact ⟨cells4_kept hg2 hb1 hb2 HU1.out, cells4_kept hg2 hb3 hb4 HU2.out⟩ | with_reducible exact ⟨cells4_kept hg1 hb1 hb2 HU1.out, cells4_kept hg1 hb3 hb4 HU2.out⟩ | exact ⟨HU1.out, HU2.out⟩) ?_ ?_
         rotate_left 1
         · (simp only [Act.put, List.setIfInBounds_toArray, List.set_cons_zero, List.set_cons_succ]; rfl))
      | exact t_fin
      | (refine t_acts rfl rfl (fun K hK => ?_) ?_
         go_simp; try (go_wp2_with (first | (go_at_call 41; have hq := hf2; refine (HSt _).mono ?_; clear hq; rintro e w3 ⟨rfl, hf3⟩; have hg3 := hg2.trans hf3; obtain ⟨z0, z1, z2, z3⟩ := cells4_kept hg3 hb1 hb2 HU1.out; obtain ⟨z4, z5, z6, z7⟩ := cells4_kept hg3 hb3 hb4 HU2.out) | (go_at_call 41; have hq := hf1; refine (HSm _).mono ?_; clear hq; rintro e w2 ⟨rfl, hf2⟩; have hg2 := hg1.trans hf2; obtain ⟨y0, y1, y2, y3⟩ := cells4_kept hg2 hb1 hb2 HU1.out) | (go_at_call 39; refine (told2_any _).mono ?_; rintro e w1 ⟨rfl, hf1⟩; have hg1 := (Fr.refl none_ w0).drew.trans hf1; obtain ⟨x0, x1, x2, x3⟩ := cells4_kept hg1 hb1 hb2 HU1.out)))
         refine hK.out _ _ (by first | with_reducible exact ⟨cells4_kept hg3 hb1 hb2 HU1.out, cells4_kept hg3 hb3 hb4 HU2.out⟩ | with_reducible exact ⟨cells4_kept hg2 hb1 hb2 HU1.out, cells4_kept hg2 hb3 hb4 HU2.out⟩ | with_reducible exact ⟨cells4_kept hg1 hb1 hb2 HU1.out, cells4_kept hg1 hb3 hb4 HU2.out⟩ | exact ⟨HU1.out, HU2.out⟩) ?_
         clear hK K))
    all_goals (refine t_done ?_)
    all_goals
      go_wp2
      go_ret
      exact ⟨rfl, HF4.out.trans hg3⟩

namespace macSame
open Go Go.ChangeShapes Go.WideShapes Go.ChangeAt Go.RowKit
set_option linter.unusedVariables false
set_option maxRecDepth 100000 in
theorem lifted (os : Os) (started : os.Started) (H : Type) (enc : TypeId × Value → H) :
    ReturnsInHanded {} Try.checked os 11 .any (Rows.macSameSpec.pre6 enc Try.prog Try.f11 Rows.macSameRow.domain false) (Rows.macSameSpec.post enc Try.prog Try.f11 false true false false) := by
  refine returnsInHanded_of_change (C := Try.checked) owned started (by kernel_rfl) Try.func11
    (ChangeSpec.witness6 (enc := enc) (C := Try.checked) false ⟨#[], #[.agg #[.int .u64 0, .int .u64 0], .agg #[.int .u64 0, .int .u64 0], .slice none 0 0], []⟩ 8 (by kernel_rfl) (by kernel_rfl) (by kernel_rfl) (by kernel_rfl)) ?_
  intro W base args ds gs before hval0 hW hcnd _
  have hval : ∀ (j : Nat) t v, Try.f11.params[j]? = some t → args[j]? = some v → Value.okWide Try.prog W .any base t v := hval0
  have hW' := hW
  obtain ⟨p, q, hA0, hV, rfl, hfz, hnd⟩ := hW
  have hA : DataW.TrodAll enc Try.prog W 0 (fun _ => true) true Try.f11.params.toList args.toList ds p := hA0
  rw [Try.params11] at hA hval
  obtain ⟨v0, vs0, d0, ds0, p0, q0, hargs, rfl, rfl, h0, r0⟩ := trodAll_cons hA
  obtain ⟨v1, vs1, d1, ds1, p1, q1, rfl, rfl, rfl, h1, r1⟩ := trodAll_cons r0
  obtain ⟨v2, vs2, d2, ds2, p2, q2, rfl, rfl, rfl, h2, r2⟩ := trodAll_cons r1
  obtain ⟨rfl, rfl, rfl⟩ := trodAll_nil r2
  obtain rfl : args = #[v0, v1, v2] := by cases args; simp_all
  obtain ⟨rfl, rfl⟩ := trodVars_none hV
  have k0 := h0
  have lt0 : ∀ x ∈ p0, x.block < W.heap.size := by obtain ⟨m, hm⟩ := k0; exact DataW.trod_lt m _ _ _ hm
  have k1 := h1
  have lt1 : ∀ x ∈ p1, x.block < W.heap.size := by obtain ⟨m, hm⟩ := k1; exact DataW.trod_lt m _ _ _ hm
  have k2 := h2
  have lt2 : ∀ x ∈ p2, x.block < W.heap.size := by obtain ⟨m, hm⟩ := k2; exact DataW.trod_lt m _ _ _ hm
  obtain ⟨x0, rfl⟩ := open_arr2 Try.underlying23 Try.underlying22 (by kernel_rfl) (by kernel_rfl) (hval 0 23 v0 rfl rfl) h0
  obtain ⟨x1, rfl⟩ := open_arr2 Try.underlying23 Try.underlying22 (by kernel_rfl) (by kernel_rfl) (hval 1 23 v1 rfl rfl) h1
  obtain ⟨x2, hr2⟩ := open_bytes Try.underlying25 Try.underlying5 (by kernel_rfl) (hval 2 25 v2 rfl rfl) h2
  clear hA0 hval0
  refine (walk_MacSame W x0 x1 v2 x2 hr2).mono fun e W' ⟨he, fr⟩ => ?_
  subst he
  have bel := fr.below
  exact ⟨_, rfl, _, _, _, [], _, [], hW', trodAll_mk1 (shut_bool Try.underlying4 _), (trodAll_cons_mk (Below.trod laid (by kernel_rfl) (of_decide_eq_true (by kernel_rfl)) k0 bel lt0) (trodAll_cons_mk (Below.trod laid (by kernel_rfl) (of_decide_eq_true (by kernel_rfl)) k1 bel lt1) (trodAll_cons_mk (Below.trod laid (by kernel_rfl) (of_decide_eq_true (by kernel_rfl)) k2 bel lt2) trodAll_mk0))), rfl, bel.frame _, fun h => by cases h⟩

theorem inPlace : Try.prog.inPlace 11 = [] := inPlace_none _ _ (by kernel_rfl)
theorem closed : joinedFacts Try.prog 11 Try.f11 Rows.macSameSpec Rows.macSameRow = true := by
  unfold joinedFacts
  repeat' (with_reducible refine and_mk ?_ ?_)
  all_goals first
    | with_reducible exact enters
    | with_reducible exact laid
    | with_reducible exact rowed
    | with_reducible exact noStops
    | with_reducible exact noKnobs
    | with_reducible exact heard
    | (rw [lifts]; as_aux_lemma => kernel_rfl)
    | (rw [makes]; as_aux_lemma => kernel_rfl)
    | (rw [plains]; as_aux_lemma => kernel_rfl)
    | (rw [inPlace]; as_aux_lemma => kernel_rfl)
    | as_aux_lemma => kernel_rfl
theorem named : Try.prog.funcNamed Rows.macSameRow.func = some 11 := by kernel_rfl
theorem isOne : (Try.f11).isInstance Try.prog Rows.macSameRow.origin Rows.macSameRow.targs := of_decide_eq_true (by kernel_rfl)
theorem wraps : (Try.f11).isWrapper Try.prog Rows.macSameRow.wrapper Rows.macSameRow.mainSum := by unfold Func.isWrapper; first | (rw [if_pos (by decide +kernel)]; kernel_rfl) | (rw [if_neg (by decide +kernel)]; exact ⟨rfl, rfl⟩)
theorem over : Rows.macSameRow.holds Try.pinned (OpenSpec.ofChange Rows.macSameSpec) :=
  OpenClaim.holds_of_wide 11 Try.f11 rfl rfl rfl rfl rfl rfl rfl ⟨rfl, rfl, rfl, rfl, rfl⟩ rfl rfl rfl rfl rfl named Try.func11 closed
    isOne wraps
    (fun os started H enc _ => lifted os started H enc)

/-- THE STATEMENT. -/
theorem proved : Rows.MacSameSaid := over
#print axioms proved
end macSame
end Go.Proofs.Ytandenkoejbloaa
