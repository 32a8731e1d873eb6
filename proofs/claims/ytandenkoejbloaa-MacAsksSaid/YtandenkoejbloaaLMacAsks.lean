/- For every input the law quorumitelaw2.MacAsks returns true: tags, derived keys, roots, collectors' keys, are what the document says. Conditions: none. -/
import Derived.Test.YtandenkoejbloaaTold2
import Derived.Test.YtandenkoejbloaaRder
import Derived.Test.YtandenkoejbloaaFacts
namespace Go.Proofs.Ytandenkoejbloaa
open Go Go.RowKit

set_option maxRecDepth 100000 in
set_option maxHeartbeats 30000000 in
theorem walk_MacAsks (w : World) (k : W × W) (v1 : Value) (l : List UInt8) (h1 : Rd w v1 (l.map bv)) (lb : List UInt8) (hlb : lb.length ≤ maxLen) (n : W) (who : Int) (_ : -9223372036854775808 ≤ who) (_ : who ≤ 9223372036854775807) (gen : Int) (_ : -9223372036854775808 ≤ gen) (_ : gen ≤ 9223372036854775807) :
    Calls Try.prog 10 #[.agg #[.int .u64 (u k.1), .int .u64 (u k.2)], v1, .string (bs lb), .int .u64 (u n), .int .i64 who, .int .i64 gen] w fun e w' => e = .returned (.bool true) ∧ Fr none_ w w' := by
  have HR := Lib.hid (h1.alloc (.cells #[.int .u64 (u k.1), .int .u64 (u k.2)] 23))
  obtain ⟨ao, cap, rfl, hc1, hm1, _⟩ := h1
  simp only [List.length_map] at *
  unfold maxLen at hm1 hlb
  have hB := Blk.new w #[.int .u64 (u k.1), .int .u64 (u k.2)] 23
  have HF := Lib.hid ((Fr.refl none_ w).alloc (.cells #[.int .u64 (u k.1), .int .u64 (u k.2)] 23))
  have hsz : ((bs lb).size : Int) = (lb.length : Int) := by rw [bs_size]
  go_enter Try.func10, Try.ntmps10
  by_cases hbig : 200 < l.length
  · have hd : decide ((200 : Int) < (l.length : Int)) = true := by simp; omega
    go_wp2_with fail
    refine (told2_any _).mono ?_
    rintro e w3 ⟨rfl, hf⟩
    go_wp2
    go_ret
    exact ⟨rfl, HF.out.trans hf⟩
  have hd : decide ((200 : Int) < (l.length : Int)) = false := by simp; omega
  by_cases hbig2 : 30 < lb.length
  · have hd2 : decide ((30 : Int) < (lb.length : Int)) = true := by simp; omega
    go_wp2_with fail
    refine (told2_any _).mono ?_
    rintro e w3 ⟨rfl, hf⟩
    go_wp2
    go_ret
    exact ⟨rfl, HF.out.trans hf⟩
  have hd2 : decide ((30 : Int) < (lb.length : Int)) = false := by simp; omega
  generalize hw0 : w.alloc (.cells #[.int .u64 (u k.1), .int .u64 (u k.2)] 23) = wa at *
  have HT := Lib.hid (mtag_any k _ l wa HR.out (by omega))
  have HT2 : ∀ wx : World, Calls Try.prog 43 #[keyv k, .string (bs l)] wx fun e w' => e = .returned (keyv (tagW k l)) ∧ Fr none_ wx w' := fun wx => rtag_any k l wx (by omega)
  have HD : ∀ wx : World, Calls Try.prog 45 #[keyv k, .string (bs lb), .int .u64 (u n)] wx fun e w' => e = .returned (keyv (deriveW k lb n)) ∧ Fr none_ wx w' := fun wx => derive_any k lb n wx (by omega)
  have HDr : ∀ wx : World, Calls Try.prog 46 #[keyv k, .string (bs lb), .int .u64 (u n)] wx fun e w' => e = .returned (keyv (deriveW k lb n)) ∧ Fr none_ wx w' := fun wx => rderive_any k lb n wx (by omega)
  have HRo : ∀ wx : World, Calls Try.prog 47 #[.int .u64 (u n)] wx fun e w' => e = .returned (keyv (rootW n)) ∧ Fr none_ wx w' := fun wx => root_any n wx
  have HRr : ∀ wx : World, Calls Try.prog 48 #[.int .u64 (u n)] wx fun e w' => e = .returned (keyv (rootW n)) ∧ Fr none_ wx w' := fun wx => rroot_any n wx
  have HO : ∀ wx : World, Calls Try.prog 49 #[.int .u64 (u n), .int .i64 who, .int .i64 gen] wx fun e w' => e = .returned (keyv (ofW n who gen)) ∧ Fr none_ wx w' := fun wx => of_any n who gen wx
  have HOr : ∀ wx : World, Calls Try.prog 50 #[.int .u64 (u n), .int .i64 who, .int .i64 gen] wx fun e w' => e = .returned (keyv (ofW n who gen)) ∧ Fr none_ wx w' := fun wx => rof_any n who gen wx
  generalize tagW k l = t at *
  generalize deriveW k lb n = kd at *
  generalize rootW n = kr at *
  generalize ofW n who gen = ko at *
  have hE : ((bs (tagB t)).toList == (bs (tagB t)).toList) = true := by simp
  unfold keyv at *
  have k0 : wa.cell? ⟨w.heap.size, 0, none⟩ = some (.int .u64 (u k.1)) := hB.cell_of rfl
  have k1 : wa.cell? ⟨w.heap.size, 1, none⟩ = some (.int .u64 (u k.2)) := hB.cell_of rfl
  go_wp2_with fail
  refine HT.out.mono ?_
  rintro e wb ⟨rfl, hfb⟩
  have hBb := (hB.kept hfb (fun f => f)).alloc (.cells #[.int .u64 (u t.1), .int .u64 (u t.2)] 52)
  have hTb := Blk.new wb #[.int .u64 (u t.1), .int .u64 (u t.2)] 52
  have HRb := Lib.hid ((HR.out.kept hfb (fun _ _ _ _ f => f)).alloc (.cells #[.int .u64 (u t.1), .int .u64 (u t.2)] 52))
  have HFb := Lib.hid ((HF.out.trans hfb).alloc (.cells #[.int .u64 (u t.1), .int .u64 (u t.2)] 52))
  clear hB hfb HF HR HT k0 k1 hw0
  generalize hwb : wb.alloc (.cells #[.int .u64 (u t.1), .int .u64 (u t.2)] 52) = wc at *
  have k0 : wc.cell? ⟨w.heap.size, 0, none⟩ = some (.int .u64 (u k.1)) := hBb.cell_of rfl
  have k1 : wc.cell? ⟨w.heap.size, 1, none⟩ = some (.int .u64 (u k.2)) := hBb.cell_of rfl
  have hcv := run_str_of_rd (P := Try.prog) Try.underlying25 Try.underlying5 Try.underlying9 HRb.out
  go_wp2_with fail
  refine (HT2 _).mono ?_
  rintro e wd ⟨rfl, hfd⟩
  generalize wb.heap.size = c at *
  have hBd := (hBb.kept hfd (fun f => f)).alloc (.cells #[.int .u64 (u t.1), .int .u64 (u t.2)] 52)
  have hTd := (hTb.kept hfd (fun f => f)).alloc (.cells #[.int .u64 (u t.1), .int .u64 (u t.2)] 52)
  have hXd := Blk.new wd #[.int .u64 (u t.1), .int .u64 (u t.2)] 52
  have HFd := Lib.hid ((HFb.out.trans hfd).alloc (.cells #[.int .u64 (u t.1), .int .u64 (u t.2)] 52))
  clear hBb hTb HRb HFb hfd hwb k0 k1 hcv
  go_wp2_with fail
  generalize wd.alloc (.cells #[.int .u64 (u t.1), .int .u64 (u t.2)] 52) = w0 at *
  generalize wd.heap.size = d at *
  have hb1 := hBd.lt
  have hb2 := hTd.lt
  have hb3 := hXd.lt
  have HU1 := Lib.hid (show w0.cell? ⟨w.heap.size, 0, none⟩ = some (.int .u64 (u k.1)) ∧ w0.cell? ⟨w.heap.size, 1, none⟩ = some (.int .u64 (u k.2)) ∧ w0.cell? ⟨c, 0, none⟩ = some (.int .u64 (u t.1)) ∧ w0.cell? ⟨c, 1, none⟩ = some (.int .u64 (u t.2)) from ⟨hBd.cell_of rfl, hBd.cell_of rfl, hTd.cell_of rfl, hTd.cell_of rfl⟩)
  have HU2 := Lib.hid (show w0.cell? ⟨d, 0, none⟩ = some (.int .u64 (u t.1)) ∧ w0.cell? ⟨d, 1, none⟩ = some (.int .u64 (u t.2)) from ⟨hXd.cell_of rfl, hXd.cell_of rfl⟩)
  clear hBd hTd hXd
  refine region_tm [0, 8, 9, 11, 18, 22, 27, 29, 36, 40] [2, 3, 7, 15] [0, 1, 2, 2, 14, 18, 34, 64, 192, 320, 64, 1344, 2624, 4160, 10240, 16384, 16384, 16384, 245760, 16384, 16384, 16384, 3948544, 4472832, 8404992, 20971520, 33554432, 100663296, 33554432, 436207616, 704643072, 1107296256, 2684354560, 4294967296, 4294967296, 4294967296, 64424509440, 4294967296, 4294967296, 4294967296, 1035087118336, 1172526071808, 2203318222848, 8796093022207] [0, 17592186044414, 17592186044413, 17592186044413, 17592186044401, 17592186044397, 17592186044383, 17592186044351, 0, 0, 17592186044351, 0, 17592186041791, 17592186040255, 17592186036223, 17592186028031, 17592186028031, 17592186028031, 0, 17592186028031, 17592186028031, 17592186028031, 0, 17592181571583, 17592177639423, 17592169267199, 17592152489983, 0, 17592152489983, 0, 17591481401343, 17591078748159, 17590038560767, 17587891077119, 17587891077119, 17587891077119, 0, 17587891077119, 17587891077119, 17587891077119, 0, 16419659972607, 15388867821567, 13194139533311] [0, 1, 3, 3, 15, 31, 63, 127, 255, 511, 127, 1535, 4095, 8191, 16383, 32767, 32767, 32767, 262143, 32767, 32767, 32767, 4194303, 8388607, 16777215, 33554431, 67108863, 134217727, 67108863, 536870911, 1073741823, 2147483647, 4294967295, 8589934591, 8589934591, 8589934591, 68719476735, 8589934591, 8589934591, 8589934591, 1099511627775, 2199023255551, 4398046511103, 8796093022207] 17592186044415 (.alt 0 (.quiet 1 (.quiet 2 (.quiet 3 (.quiet 4 (.quiet 5 (.quiet 6 (.quiet 7 (.quiet 10 (.alt 8 (.alt 9 (.alt 11 (.quiet 12 (.quiet 13 (.quiet 14 (.quiet 15 (.quiet 16 (.quiet 17 (.quiet 19 (.quiet 20 (.quiet 21 (.alt 18 (.alt 22 (.quiet 23 (.quiet 24 (.quiet 25 (.quiet 26 (.quiet 28 (.alt 27 (.alt 29 (.quiet 30 (.quiet 31 (.quiet 32 (.quiet 33 (.quiet 34 (.quiet 35 (.quiet 37 (.quiet 38 (.quiet 39 (.alt 36 (.alt 40 (.quiet 41 (.quiet 42 (.quiet 43 .done))) (.fin)) (.fin))))))))))) (.fin)) (.fin))))))) (.fin)) (.fin))))))))))) (.fin)) (.alt 11 (.alt 9 (.quiet 12 (.quiet 13 (.quiet 14 (.quiet 15 (.quiet 16 (.quiet 17 (.quiet 19 (.quiet 20 (.quiet 21 (.alt 18 (.alt 22 (.quiet 23 (.quiet 24 (.quiet 25 (.quiet 26 (.quiet 28 (.alt 27 (.alt 29 (.quiet 30 (.quiet 31 (.quiet 32 (.quiet 33 (.quiet 34 (.quiet 35 (.quiet 37 (.quiet 38 (.quiet 39 (.alt 36 (.alt 40 (.quiet 41 (.quiet 42 (.quiet 43 .done))) (.fin)) (.fin))))))))))) (.fin)) (.fin))))))) (.fin)) (.fin))))))))))) (.fin)) (.fin))) (.fin)))))))))) (.fin)) (fun w' => (w'.cell? ⟨w.heap.size, 0, none⟩ = some (.int .u64 (u k.1)) ∧ w'.cell? ⟨w.heap.size, 1, none⟩ = some (.int .u64 (u k.2)) ∧ w'.cell? ⟨c, 0, none⟩ = some (.int .u64 (u t.1)) ∧ w'.cell? ⟨c, 1, none⟩ = some (.int .u64 (u t.2))) ∧ (w'.cell? ⟨d, 0, none⟩ = some (.int .u64 (u t.1)) ∧ w'.cell? ⟨d, 1, none⟩ = some (.int .u64 (u t.2)))) (by as_aux_lemma => kernel_rfl) (by as_aux_lemma => kernel_rfl) (by as_aux_lemma => kernel_rfl) (by as_aux_lemma => kernel_rfl) (by as_aux_lemma => kernel_rfl) (by as_aux_lemma => kernel_rfl) (by as_aux_lemma => kernel_rfl) (by as_aux_lemma => kernel_rfl) (by first | with_reducible exact ⟨cells4_kept hg9 hb1 hb2 HU1.out, box2_kept hg9 hb3 HU2.out⟩ | with_reducible exact ⟨cells4_kept hg8 hb1 hb2 HU1.out, box2_kept hg8 hb3 HU2.out⟩ | with_reducible exact ⟨cells4_kept hg7 hb1 hb2 HU1.out, box2_kept hg7 hb3 HU2.out⟩ | with_reducible exact ⟨cells4_kept hg6 hb1 hb2 HU1.out, box2_kept hg6 hb3 HU2.out⟩ | with_reducible exact ⟨cells4_kept hg5 hb1 hb2 HU1.out, box2_kept hg5 hb3 HU2.out⟩ | with_reducible exact ⟨cells4_kept hg4 hb1 hb2 HU1.out, box2_kept hg4 hb3 HU2.out⟩ | with_reducible exact ⟨cells4_kept hg3 hb1 hb2 HU1.out, box2_kept hg3 hb3 HU2.out⟩ | with_reducible exact ⟨cells4_kept hg2 hb1 hb2 HU1.out, box2_kept hg2 hb3 HU2.out⟩ | with_reducible exact ⟨cells4_kept hg1 hb1 hb2 HU1.out, box2_kept hg1 hb3 HU2.out⟩ | exact ⟨HU1.out, HU2.out⟩) ?_
  repeat' (first
    | (refine t_float (v := ?_) (a' := ?_) rfl rfl rfl ?_ ?_ ?_
       rotate_left 2
       · (intro w' hU; (try dsimp only at hU); go_simp; with_reducible rfl)
       · (simp only [Act.put, List.setIfInBounds_toArray, List.set_cons_zero, List.set_cons_succ]; rfl))
    | (refine t_bound (v := ?_) (a' := ?_) rfl rfl rfl ?_ ?_ ?_
       rotate_left 2
       · (go_simp; with_reducible rfl)
       · (simp only [Act.put, List.setIfInBounds_toArray, List.set_cons_zero, List.set_cons_succ]; rfl))
    | (refine t_skip (a' := ?_) rfl rfl ?_ ?_
       rotate_left 1
       · (simp only [Act.put, List.setIfInBounds_toArray, List.set_cons_zero, List.set_cons_succ]; rfl))
    | exact t_fin
    | (refine t_acts rfl rfl (fun K hK => ?_) ?_
       first | ((refine wp_str _ _ 25 9 5 rfl Try.underlying25 Try.underlying5 Try.underlying9 v2 (tagB t) rfl (by first | exact (ho2.kept hf3 (fun _ _ f => f)).rd | exact ho2.rd) ?_); simp only [Act.put, List.setIfInBounds_toArray, List.set_cons_zero, List.set_cons_succ]) | (go_simp; try (go_wp2_with (first | (go_at_call 50; refine (HOr _).mono ?_; rintro e w9 ⟨rfl, hf9⟩; have hg9 := hg8.trans hf9) | (go_at_call 49; refine (HO _).mono ?_; rintro e w8 ⟨rfl, hf8⟩; have hg8 := hg7.trans hf8) | (go_at_call 48; refine (HRr _).mono ?_; rintro e w7 ⟨rfl, hf7⟩; have hg7 := hg6.trans hf7) | (go_at_call 47; refine (HRo _).mono ?_; rintro e w6 ⟨rfl, hf6⟩; have hg6 := hg5.trans hf6) | (go_at_call 46; refine (HDr _).mono ?_; rintro e w5 ⟨rfl, hf5⟩; have hg5 := hg4.trans hf5) | (go_at_call 45; refine (HD _).mono ?_; rintro e w4 ⟨rfl, hf4⟩; have hg4 := hg3.trans hf4; obtain ⟨z0, z1, z2, z3⟩ := cells4_kept hg4 hb1 hb2 HU1.out) | (go_at_call 44; refine (rtagB_any t _).mono ?_; rintro e w3 ⟨rfl, hf3⟩; have hg3 := hg2.trans hf3; obtain ⟨q0, q1, q2, q3⟩ := cells4_kept hg3 hb1 hb2 HU1.out) | (go_at_call 40; refine (mbytes_any t _).mono ?_; rintro e w2 ⟨v2, rfl, ho2, hf2⟩; have hg2 := hg1.trans hf2; obtain ⟨y0, y1, y2, y3⟩ := cells4_kept hg2 hb1 hb2 HU1.out; obtain ⟨y4, y5⟩ := box2_kept hg2 hb3 HU2.out) | (go_at_call 39; refine (told2_any _).mono ?_; rintro e w1 ⟨rfl, hf1⟩; have hg1 := (Fr.refl none_ w0).drew.trans hf1; obtain ⟨x0, x1, x2, x3⟩ := cells4_kept hg1 hb1 hb2 HU1.out; obtain ⟨x4, x5⟩ := box2_kept hg1 hb3 HU2.out))))
       refine hK.out _ _ (by first | with_reducible exact ⟨cells4_kept hg9 hb1 hb2 HU1.out, box2_kept hg9 hb3 HU2.out⟩ | with_reducible exact ⟨cells4_kept hg8 hb1 hb2 HU1.out, box2_kept hg8 hb3 HU2.out⟩ | with_reducible exact ⟨cells4_kept hg7 hb1 hb2 HU1.out, box2_kept hg7 hb3 HU2.out⟩ | with_reducible exact ⟨cells4_kept hg6 hb1 hb2 HU1.out, box2_kept hg6 hb3 HU2.out⟩ | with_reducible exact ⟨cells4_kept hg5 hb1 hb2 HU1.out, box2_kept hg5 hb3 HU2.out⟩ | with_reducible exact ⟨cells4_kept hg4 hb1 hb2 HU1.out, box2_kept hg4 hb3 HU2.out⟩ | with_reducible exact ⟨cells4_kept hg3 hb1 hb2 HU1.out, box2_kept hg3 hb3 HU2.out⟩ | with_reducible exact ⟨cells4_kept hg2 hb1 hb2 HU1.out, box2_kept hg2 hb3 HU2.out⟩ | with_reducible exact ⟨cells4_kept hg1 hb1 hb2 HU1.out, box2_kept hg1 hb3 HU2.out⟩ | exact ⟨HU1.out, HU2.out⟩) ?_
       clear hK K))
  all_goals (refine t_done ?_)
  all_goals
    go_wp2
    go_ret
    exact ⟨rfl, HFd.out.trans hg9⟩

namespace macAsks
open Go Go.ChangeShapes Go.WideShapes Go.ChangeAt Go.RowKit
set_option linter.unusedVariables false
set_option maxRecDepth 100000 in
theorem lifted (os : Os) (started : os.Started) (H : Type) (enc : TypeId × Value → H) :
    ReturnsInHanded {} Try.checked os 10 .any (Rows.macAsksSpec.pre6 enc Try.prog Try.f10 Rows.macAsksRow.domain false) (Rows.macAsksSpec.post enc Try.prog Try.f10 false true false false) := by
  refine returnsInHanded_of_change (C := Try.checked) owned started (by kernel_rfl) Try.func10
    (ChangeSpec.witness6 (enc := enc) (C := Try.checked) false ⟨#[], #[.agg #[.int .u64 0, .int .u64 0], .slice none 0 0, .string ⟨#[]⟩, .int .u64 0, .int .i64 0, .int .i64 0], []⟩ 8 (by kernel_rfl) (by kernel_rfl) (by kernel_rfl) (by kernel_rfl)) ?_
  intro W base args ds gs before hval0 hW hcnd _
  have hval : ∀ (j : Nat) t v, Try.f10.params[j]? = some t → args[j]? = some v → Value.okWide Try.prog W .any base t v := hval0
  have hW' := hW
  obtain ⟨p, q, hA0, hV, rfl, hfz, hnd⟩ := hW
  have hA : DataW.TrodAll enc Try.prog W 0 (fun _ => true) true Try.f10.params.toList args.toList ds p := hA0
  rw [Try.params10] at hA hval
  obtain ⟨v0, vs0, d0, ds0, p0, q0, hargs, rfl, rfl, h0, r0⟩ := trodAll_cons hA
  obtain ⟨v1, vs1, d1, ds1, p1, q1, rfl, rfl, rfl, h1, r1⟩ := trodAll_cons r0
  obtain ⟨v2, vs2, d2, ds2, p2, q2, rfl, rfl, rfl, h2, r2⟩ := trodAll_cons r1
  obtain ⟨v3, vs3, d3, ds3, p3, q3, rfl, rfl, rfl, h3, r3⟩ := trodAll_cons r2
  obtain ⟨v4, vs4, d4, ds4, p4, q4, rfl, rfl, rfl, h4, r4⟩ := trodAll_cons r3
  obtain ⟨v5, vs5, d5, ds5, p5, q5, rfl, rfl, rfl, h5, r5⟩ := trodAll_cons r4
  obtain ⟨rfl, rfl, rfl⟩ := trodAll_nil r5
  obtain rfl : args = #[v0, v1, v2, v3, v4, v5] := by cases args; simp_all
  obtain ⟨rfl, rfl⟩ := trodVars_none hV
  have k0 := h0
  have lt0 : ∀ x ∈ p0, x.block < W.heap.size := by obtain ⟨m, hm⟩ := k0; exact DataW.trod_lt m _ _ _ hm
  have k1 := h1
  have lt1 : ∀ x ∈ p1, x.block < W.heap.size := by obtain ⟨m, hm⟩ := k1; exact DataW.trod_lt m _ _ _ hm
  have k2 := h2
  have lt2 : ∀ x ∈ p2, x.block < W.heap.size := by obtain ⟨m, hm⟩ := k2; exact DataW.trod_lt m _ _ _ hm
  have k3 := h3
  have lt3 : ∀ x ∈ p3, x.block < W.heap.size := by obtain ⟨m, hm⟩ := k3; exact DataW.trod_lt m _ _ _ hm
  have k4 := h4
  have lt4 : ∀ x ∈ p4, x.block < W.heap.size := by obtain ⟨m, hm⟩ := k4; exact DataW.trod_lt m _ _ _ hm
  have k5 := h5
  have lt5 : ∀ x ∈ p5, x.block < W.heap.size := by obtain ⟨m, hm⟩ := k5; exact DataW.trod_lt m _ _ _ hm
  obtain ⟨x0, rfl⟩ := open_arr2 Try.underlying23 Try.underlying22 (by kernel_rfl) (by kernel_rfl) (hval 0 23 v0 rfl rfl) h0
  obtain ⟨x1, hr1⟩ := open_bytes Try.underlying25 Try.underlying5 (by kernel_rfl) (hval 1 25 v1 rfl rfl) h1
  obtain ⟨x2, rfl, bl2⟩ := open_str Try.underlying9 (hval 2 9 v2 rfl rfl) h2
  obtain ⟨x3, rfl⟩ := open_word Try.underlying22 (hval 3 22 v3 rfl rfl) h3
  obtain ⟨x4, rfl, bl4, bh4⟩ := open_num Try.underlying3 (hval 4 3 v4 rfl rfl) h4
  obtain ⟨x5, rfl, bl5, bh5⟩ := open_num Try.underlying3 (hval 5 3 v5 rfl rfl) h5
  clear hA0 hval0
  refine (walk_MacAsks W x0 v1 x1 hr1 x2 bl2 x3 x4 bl4 bh4 x5 bl5 bh5).mono fun e W' ⟨he, fr⟩ => ?_
  subst he
  have bel := fr.below
  exact ⟨_, rfl, _, _, _, [], _, [], hW', trodAll_mk1 (shut_bool Try.underlying4 _), (trodAll_cons_mk (Below.trod laid (by kernel_rfl) (of_decide_eq_true (by kernel_rfl)) k0 bel lt0) (trodAll_cons_mk (Below.trod laid (by kernel_rfl) (of_decide_eq_true (by kernel_rfl)) k1 bel lt1) (trodAll_cons_mk (Below.trod laid (by kernel_rfl) (of_decide_eq_true (by kernel_rfl)) k2 bel lt2) (trodAll_cons_mk (Below.trod laid (by kernel_rfl) (of_decide_eq_true (by kernel_rfl)) k3 bel lt3) (trodAll_cons_mk (Below.trod laid (by kernel_rfl) (of_decide_eq_true (by kernel_rfl)) k4 bel lt4) (trodAll_cons_mk (Below.trod laid (by kernel_rfl) (of_decide_eq_true (by kernel_rfl)) k5 bel lt5) trodAll_mk0)))))), rfl, bel.frame _, fun h => by cases h⟩

theorem inPlace : Try.prog.inPlace 10 = [] := inPlace_none _ _ (by kernel_rfl)
theorem closed : joinedFacts Try.prog 10 Try.f10 Rows.macAsksSpec Rows.macAsksRow = true := by
  unfold joinedFacts
  repeat' (with_reducible refine and_mk ?_ ?_)
  all_goals first
    | with_reducible exact enters
    | with_reducible exact laid
    | with_reducible exact rowed
    | with_reducible exact noStops
    | with_reducible exact noKnobs
    | with_reducible exact heard
    | (rw [lifts]; as_aux_lemma => kernel_rfl)
    | (rw [makes]; as_aux_lemma => kernel_rfl)
    | (rw [plains]; as_aux_lemma => kernel_rfl)
    | (rw [inPlace]; as_aux_lemma => kernel_rfl)
    | as_aux_lemma => kernel_rfl
theorem named : Try.prog.funcNamed Rows.macAsksRow.func = some 10 := by kernel_rfl
theorem isOne : (Try.f10).isInstance Try.prog Rows.macAsksRow.origin Rows.macAsksRow.targs := of_decide_eq_true (by kernel_rfl)
theorem wraps : (Try.f10).isWrapper Try.prog Rows.macAsksRow.wrapper Rows.macAsksRow.mainSum := by unfold Func.isWrapper; first | (rw [if_pos (by decide +kernel)]; kernel_rfl) | (rw [if_neg (by decide +kernel)]; exact ⟨rfl, rfl⟩)
theorem over : Rows.macAsksRow.holds Try.pinned (OpenSpec.ofChange Rows.macAsksSpec) :=
  OpenClaim.holds_of_wide 10 Try.f10 rfl rfl rfl rfl rfl rfl rfl ⟨rfl, rfl, rfl, rfl, rfl⟩ rfl rfl rfl rfl rfl named Try.func10 closed
    isOne wraps
    (fun os started H enc _ => lifted os started H enc)

/-- THE STATEMENT. -/
theorem proved : Rows.MacAsksSaid := over
#print axioms proved
end macAsks
end Go.Proofs.Ytandenkoejbloaa
