/- For every input the law quorumitelaw2.MacLabels returns true: a key that is derived hangs on the key, the label and the number alone. Conditions: none. -/
import Derived.Test.YtandenkoejbloaaTold2
import Derived.Test.YtandenkoejbloaaFacts
namespace Go.Proofs.Ytandenkoejbloaa
open Go Go.RowKit

theorem bytes_of_str (l : List UInt8) (hl : l.length ≤ maxLen) : ∃ (fv : World → Value) (fw : World → World), (∀ wa, (convert 9 25 (.string (bs l))).run Try.prog wa = .ok (fv wa) (fw wa)) ∧
    ∀ wa, Own (fw wa) wa.heap.size 5 (fv wa) (l.map bv) ∧ Fr none_ wa (fw wa) := by
  have hb := fun wa : World => run_bytes_b (P := Try.prog) (w := wa) Try.underlying9 Try.underlying25 Try.underlying5 l hl wa.heap.size (Nat.le_refl _)
  obtain ⟨fv, hb⟩ := Classical.skolem.1 hb
  obtain ⟨fw, hb⟩ := Classical.skolem.1 hb
  exact ⟨fv, fw, fun wa => (hb wa).1, fun wa => ⟨(hb wa).2.1, (hb wa).2.2.1⟩⟩

set_option maxRecDepth 100000 in
set_option maxHeartbeats 6400000 in
theorem walk_MacLabels (w : World) (k : W × W) (l : List UInt8) (hl : l.length ≤ maxLen) (n : W) :
    Calls Try.prog 12 #[.agg #[.int .u64 (u k.1), .int .u64 (u k.2)], .string (bs l), .int .u64 (u n)] w fun e w' => e = .returned (.bool true) ∧ Fr none_ w w' := by
  obtain ⟨i0, hi, hz0, hz1, hz2⟩ := info_parts info_u8
  obtain ⟨fv, fw, hcvt, hprop⟩ := bytes_of_str l hl
  have HP := Lib.hid hprop
  clear hprop
  have hB := Blk.new w #[.int .u64 (u k.1), .int .u64 (u k.2)] 23
  have HF := Lib.hid ((Fr.refl none_ w).alloc (.cells #[.int .u64 (u k.1), .int .u64 (u k.2)] 23))
  unfold maxLen at hl
  have hsz : ((bs l).size : Int) = (l.length : Int) := by rw [bs_size]
  go_enter Try.func12, Try.ntmps12
  by_cases hbig : 30 < l.length
  · have hd : decide ((30 : Int) < (l.length : Int)) = true := by simp; omega
    go_wp2_with fail
    refine (told2_any _).mono ?_
    rintro e w3 ⟨rfl, hf⟩
    go_wp2
    go_ret
    exact ⟨rfl, HF.out.trans hf⟩
  have hd : decide ((30 : Int) < (l.length : Int)) = false := by simp; omega
  generalize hw0 : w.alloc (.cells #[.int .u64 (u k.1), .int .u64 (u k.2)] 23) = w0 at *
  have h0 := (HP.out w0).1
  have h1 := (HP.out w0).2
  go_wp2_with (first | (at_builtin; go_must (refine wpList_append_b _ rfl _ _ 25 25 rfl w0.heap.size 5 i0 (.int .u8 0) 1 Try.underlying25 hi hz0 hz1 hz2 rfl _ _ rfl (h0.alloc _) (.slice (some ⟨(fw w0).heap.size, 0, none⟩) 1 1) rfl 1 [bv 1] ?c1 ?c2 ?c3 ?c4 ?c5)))
  case c1 => exact src_of_rd Try.underlying25 (rd_made (fw w0) [bv 1] 5 (by show 1 ≤ maxLen; decide)) (bvs_one [1])
  case c2 => simp [maxLen]; omega
  case c3 => first | (simp; omega) | omega
  case c4 =>  have := h1.size; first | (simp; omega) | omega
  intro av1 aw1 ao1 af1 _
  replace ao1 : Own aw1 w0.heap.size 5 av1 ((l ++ [1]).map bv) := by simpa only [List.map_append, List.map_cons, List.map_nil] using ao1
  have ag1 : Fr none_ w0 aw1 := (h1.alloc (.cells #[bv 1] 5)).step af1 (fun i hi h => absurd (h0.blk _ h).1 (by omega))
  clear af1 h0 h1
  go_wp2_with fail
  refine (put_any n aw1).mono ?_
  rintro e aw2 ⟨av2, rfl, ao2, af2⟩
  have ag2 := ag1.trans af2
  have ap1 := ao1.kept af2 (fun _ _ f => f)
  have an2 := putB_length n
  go_wp2_with (first | (at_builtin; go_must (refine wpList_append_b _ rfl _ _ 25 25 rfl w0.heap.size 5 i0 (.int .u8 0) 1 Try.underlying25 hi hz0 hz1 hz2 rfl _ _ rfl ap1 av2 rfl 8 ((putB n).map bv) ?d1 ?d2 ?d3 ?d4 ?d5)))
  case d1 => have := src_of_rd (P := Try.prog) Try.underlying25 ao2.rd (bvs_one (putB n)); rw [List.length_map, putB_length] at this; exact this
  case d2 => simp [maxLen]; omega
  case d3 => first | (simp; omega) | omega
  case d4 => exact ag2.size
  intro av3 aw3 ao3 af3 _
  replace ao3 : Own aw3 w0.heap.size 5 av3 ((l ++ [1] ++ putB n).map bv) := by simpa only [List.map_append, List.append_assoc, List.map_cons, List.map_nil, List.cons_append, List.nil_append] using ao3
  have ag3 : Fr none_ w0 aw3 := ag2.step af3 (fun i hi h => absurd (ap1.blk _ h).1 (by omega))
  clear af3 af2 ao2 ap1 ag1 ag2 an2
  have h0 := (HP.out aw3).1
  have h1 := (HP.out aw3).2
  go_wp2_with (first | (at_builtin; go_must (refine wpList_append_b _ rfl _ _ 25 25 rfl aw3.heap.size 5 i0 (.int .u8 0) 1 Try.underlying25 hi hz0 hz1 hz2 rfl _ _ rfl (h0.alloc _) (.slice (some ⟨(fw aw3).heap.size, 0, none⟩) 1 1) rfl 1 [bv 2] ?e1 ?e2 ?e3 ?e4 ?e5)))
  case e1 => exact src_of_rd Try.underlying25 (rd_made (fw aw3) [bv 2] 5 (by show 1 ≤ maxLen; decide)) (bvs_one [2])
  case e2 => simp [maxLen]; omega
  case e3 => first | (simp; omega) | omega
  case e4 => have := h1.size; first | (simp; omega) | omega
  intro bv1 bw1 bo1 bf1 _
  replace bo1 : Own bw1 aw3.heap.size 5 bv1 ((l ++ [2]).map bv) := by simpa only [List.map_append, List.map_cons, List.map_nil] using bo1
  have bg1 : Fr none_ aw3 bw1 := (h1.alloc (.cells #[bv 2] 5)).step bf1 (fun i hi h => absurd (h0.blk _ h).1 (by omega))
  clear bf1 h0 h1
  go_wp2_with fail
  refine (put_any n bw1).mono ?_
  rintro e bw2 ⟨bv2, rfl, bo2, bf2⟩
  have bg2 := bg1.trans bf2
  have bp1 := bo1.kept bf2 (fun _ _ f => f)
  have bn2 := putB_length n
  go_wp2_with (first | (at_builtin; go_must (refine wpList_append_b _ rfl _ _ 25 25 rfl aw3.heap.size 5 i0 (.int .u8 0) 1 Try.underlying25 hi hz0 hz1 hz2 rfl _ _ rfl bp1 bv2 rfl 8 ((putB n).map bv) ?f1 ?f2 ?f3 ?f4 ?f5)))
  case f1 => have := src_of_rd (P := Try.prog) Try.underlying25 bo2.rd (bvs_one (putB n)); rw [List.length_map, putB_length] at this; exact this
  case f2 => simp [maxLen]; omega
  case f3 => first | (simp; omega) | omega
  case f4 => exact bg2.size
  intro bv3 bw3 bo3 bf3 _
  replace bo3 : Own bw3 aw3.heap.size 5 bv3 ((l ++ [2] ++ putB n).map bv) := by simpa only [List.map_append, List.append_assoc, List.map_cons, List.map_nil, List.cons_append, List.nil_append] using bo3
  have bg3 : Fr none_ aw3 bw3 := bg2.step bf3 (fun i hi h => absurd (bp1.blk _ h).1 (by omega))
  clear bf3 bf2 bo2 bp1 bg1 bg2 bn2
  have ho1 := ao3.kept bg3 (fun _ _ f => f)
  have HG := Lib.hid (HF.out.trans (ag3.trans bg3))
  have hB6 := (hB.kept ag3 (fun f => f)).kept bg3 (fun f => f)
  have hS1 : ∀ wa : World, Rd wa av3 ((l ++ [1] ++ putB n).map bv) → Calls Try.prog 32 #[keyv k, av3] wa fun e w' => e = .returned (.int .u64 (u (deriveW k l n).1)) ∧ Fr none_ wa w' := fun wa h => by
    have e1 : sumW k (l ++ [1] ++ putB n) = (deriveW k l n).1 := rfl
    rw [← e1]; exact ssum_any k av3 _ wa h (by simp [putB_length]; omega)
  have hS2 : ∀ wa : World, Rd wa bv3 ((l ++ [2] ++ putB n).map bv) → Calls Try.prog 32 #[keyv k, bv3] wa fun e w' => e = .returned (.int .u64 (u (deriveW k l n).2)) ∧ Fr none_ wa w' := fun wa h => by
    have e1 : sumW k (l ++ [2] ++ putB n) = (deriveW k l n).2 := rfl
    rw [← e1]; exact ssum_any k bv3 _ wa h (by simp [putB_length]; omega)
  have hD : ∀ wa : World, Calls Try.prog 45 #[keyv k, .string (bs l), .int .u64 (u n)] wa fun e w' => e = .returned (keyv (deriveW k l n)) ∧ Fr none_ wa w' := fun wa => derive_any k l n wa (by omega)
  have HO1 := Lib.hid ho1
  have HO2 := Lib.hid bo3
  clear ao3 bo3 ho1 ag3 bg3 hB HF hcvt HP
  generalize (l ++ [1] ++ putB n).map bv = L1 at *
  generalize (l ++ [2] ++ putB n).map bv = L2 at *
  generalize deriveW k l n = kk at *
  generalize bw3 = wE at *
  have hbl := hB6.lt
  have HU := Lib.hid (show wE.cell? ⟨w.heap.size, 0, none⟩ = some (.int .u64 (u k.1)) ∧ wE.cell? ⟨w.heap.size, 1, none⟩ = some (.int .u64 (u k.2)) from ⟨hB6.cell_of rfl, hB6.cell_of rfl⟩)
  clear hB6
  unfold keyv at *
  go_wp2_with fail
  refine region_tm [0, 5, 8, 11] [2] [0, 1, 2, 2, 2, 30, 2, 2, 226, 2, 2, 1794, 2306, 4130, 8194, 32767] [0, 65534, 65533, 65533, 65533, 0, 65533, 65533, 0, 65533, 65533, 0, 63229, 61405, 57341, 49151] [0, 1, 3, 3, 3, 31, 3, 3, 255, 3, 3, 2047, 4095, 8191, 16383, 32767] 65535 (.alt 0 (.quiet 1 (.quiet 2 (.quiet 3 (.quiet 4 (.quiet 6 (.quiet 7 (.quiet 9 (.quiet 10 (.alt 5 (.alt 8 (.alt 11 (.quiet 12 (.quiet 13 (.quiet 14 (.quiet 15 .done)))) (.fin)) (.fin)) (.fin)))))))))) (.fin)) (fun w' => w'.cell? ⟨w.heap.size, 0, none⟩ = some (.int .u64 (u k.1)) ∧ w'.cell? ⟨w.heap.size, 1, none⟩ = some (.int .u64 (u k.2))) (by as_aux_lemma => kernel_rfl) (by as_aux_lemma => kernel_rfl) (by as_aux_lemma => kernel_rfl) (by as_aux_lemma => kernel_rfl) (by as_aux_lemma => kernel_rfl) (by as_aux_lemma => kernel_rfl) (by as_aux_lemma => kernel_rfl) (by as_aux_lemma => kernel_rfl) (by first | with_reducible exact box2_kept hg4 hbl HU.out | with_reducible exact box2_kept hg3 hbl HU.out | with_reducible exact box2_kept hg2 hbl HU.out | with_reducible exact box2_kept hg1 hbl HU.out | exact HU.out) ?_
  repeat' (first
    | (refine t_float (v := ?_) (a' := ?_) rfl rfl rfl ?_ ?_ ?_
       rotate_left 2
       · (intro w' hU; (try dsimp only at hU); go_simp; with_reducible rfl)
       · (simp only [Act.put, List.setIfInBounds_toArray, List.set_cons_zero, List.set_cons_succ]; rfl))
    | (refine t_bound (v := ?_) (a' := ?_) rfl rfl rfl ?_ ?_ ?_
       rotate_left 2
       · (go_simp; with_reducible rfl)
       · (simp only [Act.put, List.setIfInBounds_toArray, List.set_cons_zero, List.set_cons_succ]; rfl))
    | (refine t_skip (a' := ?_) rfl rfl ?_ ?_
       rotate_left 1
       · (simp only [Act.put, List.setIfInBounds_toArray, List.set_cons_zero, List.set_cons_succ]; rfl))
    | exact t_fin
    | (refine t_acts rfl rfl (fun K hK => ?_) ?_
       go_simp; try (go_wp2_with (first | (go_at_call 32; have hq := hf3; refine (hS2 _ (HO2.out.kept hg3 (fun _ _ f => f)).rd).mono ?_; clear hq; rintro e w4 ⟨rfl, hf4⟩; have hg4 := hg3.trans hf4) | (go_at_call 32; have hq := hf2; refine (hS1 _ (HO1.out.kept hg2 (fun _ _ f => f)).rd).mono ?_; clear hq; rintro e w3 ⟨rfl, hf3⟩; have hg3 := hg2.trans hf3; obtain ⟨z0, z1⟩ := box2_kept hg3 hbl HU.out) | (go_at_call 45; have hq := hf1; refine (hD _).mono ?_; clear hq; rintro e w2 ⟨rfl, hf2⟩; have hg2 := hg1.trans hf2; obtain ⟨y0, y1⟩ := box2_kept hg2 hbl HU.out) | (go_at_call 39; refine (told2_any _).mono ?_; rintro e w1 ⟨rfl, hf1⟩; have hg1 := (Fr.refl none_ wE).drew.trans hf1; obtain ⟨x0, x1⟩ := box2_kept hg1 hbl HU.out)))
       refine hK.out _ _ (by first | with_reducible exact box2_kept hg4 hbl HU.out | with_reducible exact box2_kept hg3 hbl HU.out | with_reducible exact box2_kept hg2 hbl HU.out | with_reducible exact box2_kept hg1 hbl HU.out | exact HU.out) ?_
       clear hK K))
  all_goals (refine t_done ?_)
  all_goals
    go_wp2
    go_ret
    exact ⟨rfl, HG.out.trans hg4⟩

namespace macLabels
open Go Go.ChangeShapes Go.WideShapes Go.ChangeAt Go.RowKit
set_option linter.unusedVariables false
set_option maxRecDepth 100000 in
theorem lifted (os : Os) (started : os.Started) (H : Type) (enc : TypeId × Value → H) :
    ReturnsInHanded {} Try.checked os 12 .any (Rows.macLabelsSpec.pre6 enc Try.prog Try.f12 Rows.macLabelsRow.domain false) (Rows.macLabelsSpec.post enc Try.prog Try.f12 false true false false) := by
  refine returnsInHanded_of_change (C := Try.checked) owned started (by kernel_rfl) Try.func12
    (ChangeSpec.witness6 (enc := enc) (C := Try.checked) false ⟨#[], #[.agg #[.int .u64 0, .int .u64 0], .string ⟨#[]⟩, .int .u64 0], []⟩ 8 (by kernel_rfl) (by kernel_rfl) (by kernel_rfl) (by kernel_rfl)) ?_
  intro W base args ds gs before hval0 hW hcnd _
  have hval : ∀ (j : Nat) t v, Try.f12.params[j]? = some t → args[j]? = some v → Value.okWide Try.prog W .any base t v := hval0
  have hW' := hW
  obtain ⟨p, q, hA0, hV, rfl, hfz, hnd⟩ := hW
  have hA : DataW.TrodAll enc Try.prog W 0 (fun _ => true) true Try.f12.params.toList args.toList ds p := hA0
  rw [Try.params12] at hA hval
  obtain ⟨v0, vs0, d0, ds0, p0, q0, hargs, rfl, rfl, h0, r0⟩ := trodAll_cons hA
  obtain ⟨v1, vs1, d1, ds1, p1, q1, rfl, rfl, rfl, h1, r1⟩ := trodAll_cons r0
  obtain ⟨v2, vs2, d2, ds2, p2, q2, rfl, rfl, rfl, h2, r2⟩ := trodAll_cons r1
  obtain ⟨rfl, rfl, rfl⟩ := trodAll_nil r2
  obtain rfl : args = #[v0, v1, v2] := by cases args; simp_all
  obtain ⟨rfl, rfl⟩ := trodVars_none hV
  have k0 := h0
  have lt0 : ∀ x ∈ p0, x.block < W.heap.size := by obtain ⟨m, hm⟩ := k0; exact DataW.trod_lt m _ _ _ hm
  have k1 := h1
  have lt1 : ∀ x ∈ p1, x.block < W.heap.size := by obtain ⟨m, hm⟩ := k1; exact DataW.trod_lt m _ _ _ hm
  have k2 := h2
  have lt2 : ∀ x ∈ p2, x.block < W.heap.size := by obtain ⟨m, hm⟩ := k2; exact DataW.trod_lt m _ _ _ hm
  obtain ⟨x0, rfl⟩ := open_arr2 Try.underlying23 Try.underlying22 (by kernel_rfl) (by kernel_rfl) (hval 0 23 v0 rfl rfl) h0
  obtain ⟨x1, rfl, bl1⟩ := open_str Try.underlying9 (hval 1 9 v1 rfl rfl) h1
  obtain ⟨x2, rfl⟩ := open_word Try.underlying22 (hval 2 22 v2 rfl rfl) h2
  clear hA0 hval0
  refine (walk_MacLabels W x0 x1 bl1 x2).mono fun e W' ⟨he, fr⟩ => ?_
  subst he
  have bel := fr.below
  exact ⟨_, rfl, _, _, _, [], _, [], hW', trodAll_mk1 (shut_bool Try.underlying4 _), (trodAll_cons_mk (Below.trod laid (by kernel_rfl) (of_decide_eq_true (by kernel_rfl)) k0 bel lt0) (trodAll_cons_mk (Below.trod laid (by kernel_rfl) (of_decide_eq_true (by kernel_rfl)) k1 bel lt1) (trodAll_cons_mk (Below.trod laid (by kernel_rfl) (of_decide_eq_true (by kernel_rfl)) k2 bel lt2) trodAll_mk0))), rfl, bel.frame _, fun h => by cases h⟩

theorem inPlace : Try.prog.inPlace 12 = [] := inPlace_none _ _ (by kernel_rfl)
theorem closed : joinedFacts Try.prog 12 Try.f12 Rows.macLabelsSpec Rows.macLabelsRow = true := by
  unfold joinedFacts
  repeat' (with_reducible refine and_mk ?_ ?_)
  all_goals first
    | with_reducible exact enters
    | with_reducible exact laid
    | with_reducible exact rowed
    | with_reducible exact noStops
    | with_reducible exact noKnobs
    | with_reducible exact heard
    | (rw [lifts]; as_aux_lemma => kernel_rfl)
    | (rw [makes]; as_aux_lemma => kernel_rfl)
    | (rw [plains]; as_aux_lemma => kernel_rfl)
    | (rw [inPlace]; as_aux_lemma => kernel_rfl)
    | as_aux_lemma => kernel_rfl
theorem named : Try.prog.funcNamed Rows.macLabelsRow.func = some 12 := by kernel_rfl
theorem isOne : (Try.f12).isInstance Try.prog Rows.macLabelsRow.origin Rows.macLabelsRow.targs := of_decide_eq_true (by kernel_rfl)
theorem wraps : (Try.f12).isWrapper Try.prog Rows.macLabelsRow.wrapper Rows.macLabelsRow.mainSum := by unfold Func.isWrapper; first | (rw [if_pos (by decide +kernel)]; kernel_rfl) | (rw [if_neg (by decide +kernel)]; exact ⟨rfl, rfl⟩)
theorem over : Rows.macLabelsRow.holds Try.pinned (OpenSpec.ofChange Rows.macLabelsSpec) :=
  OpenClaim.holds_of_wide 12 Try.f12 rfl rfl rfl rfl rfl rfl rfl ⟨rfl, rfl, rfl, rfl, rfl⟩ rfl rfl rfl rfl rfl named Try.func12 closed
    isOne wraps
    (fun os started H enc _ => lifted os started H enc)

/-- THE STATEMENT. -/
theorem proved : Rows.MacLabelsSaid := over
#print axioms proved
end macLabels
end Go.Proofs.Ytandenkoejbloaa
