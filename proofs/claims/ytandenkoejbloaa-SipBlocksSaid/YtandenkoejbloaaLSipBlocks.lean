/- For every input the law quorumitelaw1.SipBlocks returns true: bytes that are unlike in their length alone have each the sum that the document says. Conditions: none. -/
import Derived.Test.YtandenkoejbloaaFacts
import Derived.Test.YtandenkoejbloaaTold1
import Derived.Test.YtandenkoejbloaaMore
namespace Go.Proofs.Ytandenkoejbloaa
open Go Go.RowKit

set_option maxRecDepth 100000 in
set_option maxHeartbeats 3200000 in
theorem walk_SipBlocks (w : World) (k : W × W) (v1 : Value) (l : List UInt8) (h1 : Rd w v1 (l.map bv)) (n : Int) (_ : -9223372036854775808 ≤ n) (_ : n ≤ 9223372036854775807) :
    Calls Try.prog 7 #[.agg #[.int .u64 (u k.1), .int .u64 (u k.2)], v1, .int .i64 n] w fun e w' => e = .returned (.bool true) ∧ Fr none_ w w' := by
  obtain ⟨i0, hi, hz0, hz1, hz2⟩ := info_parts info_u8
  have H1 := Lib.hid h1
  obtain ⟨ao1, cap1, rfl, hc1, hm1, _⟩ := h1
  simp only [List.length_map] at *
  unfold maxLen at hm1
  obtain ⟨m, hm21, hm⟩ := modN 21 (by decide) n
  rw [show ((21 : Nat) : Int) = 21 from rfl] at hm
  have hmw : IntKind.i64.wrap (m : Int) = (m : Int) := IntWalk.i64_in _ (by omega)
  go_enter Try.func7, Try.ntmps7
  by_cases hl : 40 < l.length
  · have hd : decide ((40 : Int) < (l.length : Int)) = true := by simp; omega
    go_wp2_with fail
    refine (told1_any _).mono ?_
    rintro e w3 ⟨rfl, hf⟩
    go_wp2
    go_ret
    exact ⟨rfl, ((Fr.refl none_ w).alloc _).trans hf⟩
  have hd : decide ((40 : Int) < (l.length : Int)) = false := by simp; omega
  have hB : Blk (w.alloc (.cells #[.int .u64 (u k.1), .int .u64 (u k.2)] 23)) w.heap.size 23 [.int .u64 (u k.1), .int .u64 (u k.2)] := Blk.new _ _ _
  have hF := (Fr.refl none_ w).alloc (.cells #[.int .u64 (u k.1), .int .u64 (u k.2)] 23)
  have hR := H1.out.alloc (.cells #[.int .u64 (u k.1), .int .u64 (u k.2)] 23)
  have hsz : (w.alloc (.cells #[.int .u64 (u k.1), .int .u64 (u k.2)] 23)).heap.size = w.heap.size + 1 := by simp
  have HB := Lib.hid hB
  have HF := Lib.hid hF
  have HR := Lib.hid hR
  have HS := Lib.hid hsz
  clear hB hF hR H1 hsz
  go_wp2_with (first | (at_builtin; go_must (refine wpList_append_b _ rfl _ _ 25 25 rfl (w.heap.size + 1) 5 i0 (.int .u8 0) 1 Try.underlying25 hi hz0 hz1 hz2 rfl (.slice (some ⟨w.heap.size + 1, 0, none⟩) 0 0) [] rfl (by have := own_made (w.alloc (.cells #[.int .u64 (u k.1), .int .u64 (u k.2)] 23)) [] 5 (by decide) (w.heap.size + 1) (Nat.le_of_eq HS.out.symm); rw [HS.out] at this; exact this) (.slice ao1 l.length cap1) rfl l.length (l.map bv) ?c1 ?c2 ?c3 ?c4 ?c5)))
  case c1 => have := src_of_rd (P := Try.prog) Try.underlying25 (HR.out.alloc (.cells #[] 5)) (bvs_one l); rw [List.length_map] at this; exact this
  case c2 => simp [maxLen]; omega
  case c3 => simp; omega
  case c4 => simp
  intro v1 w1 ho1 hf1 hk1
  have hno : ∀ i, (Value.slice (some ⟨w.heap.size + 1, 0, none⟩) 0 0).ownBlock = some i → w.heap.size + 1 ≤ i := fun i h => by simp [Value.ownBlock] at h; omega
  have HO1 := Lib.hid ho1
  have HF1 := Lib.hid ((HF.out.alloc (.cells #[] 5)).step hf1 (fun i hi h => absurd (hno i h) (by omega)))
  have HB1 := Lib.hid ((HB.out.alloc (.cells #[] 5)).kept hf1 (fun h => absurd (hno _ h) (by omega)))
  clear ho1 hf1 hk1 HF HB HR HS hno
  go_wp2_with fail
  go_loopw [7, 8] (fun v i wr => ∃ j : Nat, j ≤ m ∧ i = .int .i64 j ∧ Own wr (w.heap.size + 1) 5 v ((l ++ List.replicate j 0).map bv) ∧ Blk wr w.heap.size 23 [.int .u64 (u k.1), .int .u64 (u k.2)] ∧ Fr none_ w wr) (fun _ i _ => m - (intOf i).toNat)
  case atStart => exact ⟨0, Nat.zero_le _, rfl, by simpa using HO1.out, HB1.out, HF1.out⟩
  case round =>
    clear HO1 HB1 HF1
    obtain ⟨j, hj, rfl, ho, hb, hf⟩ := hrel
    have HO := Lib.hid ho
    have HF := Lib.hid hf
    have HB := Lib.hid hb
    have hbl := hb.lt
    have HL := Lib.hid (show (l ++ List.replicate j (0 : UInt8)).length = l.length + j by simp)
    clear ho hf hb
    by_cases hlt : j < m
    · have hlk : (j : Int) < (m : Int) := by omega
      go_wp2_with (first | (at_builtin; go_must (refine wpList_append_b _ rfl _ _ 25 25 rfl (w.heap.size + 1) 5 i0 (.int .u8 0) 1 Try.underlying25 hi hz0 hz1 hz2 rfl _ _ rfl (HO.out.alloc _) (.slice (some ⟨wr.heap.size, 0, none⟩) 1 1) rfl 1 [bv 0] ?d1 ?d2 ?d3 ?d4 ?d5)))
      case d1 => exact src_of_rd Try.underlying25 (rd_made wr [bv 0] 5 (by show 1 ≤ maxLen; decide)) (bvs_one [0])
      case d2 => rw [List.length_map, HL.out]; simp [maxLen]; omega
      case d3 => rw [List.length_map, HL.out]; omega
      case d4 => simp; omega
      intro v3 w3 ho3 hf3 hk3
      have hF3 := HO.out.frame (base := w.heap.size + 1) HF.out (Nat.le_succ _) (Fr.alloc (Fr.refl none_ wr) _) hf3
      have hB3 := (HB.out.alloc (.cells #[bv 0] 5)).kept hf3 (fun h => absurd (HO.out.blk _ h).1 (by omega))
      replace ho3 : Own w3 (w.heap.size + 1) 5 v3 ((l ++ List.replicate (j + 1) 0).map bv) := by
        rw [List.replicate_succ']; simpa only [List.map_append, List.append_assoc, List.map_replicate, List.map_cons, List.map_nil] using ho3
      have HO3 := Lib.hid ho3
      have HF3 := Lib.hid hF3
      have HB3 := Lib.hid hB3
      have HC3 := Lib.hid (show w3.cell? ⟨w.heap.size, 0, none⟩ = some (.int .u64 (u k.1)) ∧ w3.cell? ⟨w.heap.size, 1, none⟩ = some (.int .u64 (u k.2)) from ⟨hB3.cell_of rfl, hB3.cell_of rfl⟩)
      have hbl3 := hB3.lt
      clear ho3 hF3 hB3 hf3 hk3 HO HF HB
      have HL3 := Lib.hid (show (l ++ List.replicate (j + 1) (0 : UInt8)).length ≤ 140737488355000 by simp; omega)
      generalize hx : l ++ List.replicate (j + 1) (0 : UInt8) = x at HO3 HL3
      have HX := Lib.hid hx
      clear hx
      have HR3 := Lib.hid HO3.out.rd
      go_wp2_with fail
      refine region_t [2, 5, 6] [] (.quiet 0 (.quiet 1 (.quiet 3 (.quiet 4 (.alt 2 (.alt 5 (.alt 6 (.quiet 7 .done) (.fin)) (.fin)) (.alt 5 (.alt 2 (.alt 6 (.quiet 7 .done) (.fin)) (.fin)) (.fin))))))) (fun w' => w'.cell? ⟨w.heap.size, 0, none⟩ = some (.int .u64 (u k.1)) ∧ w'.cell? ⟨w.heap.size, 1, none⟩ = some (.int .u64 (u k.2))) (by kernel_rfl) (by kernel_rfl) (by kernel_rfl) (by kernel_rfl) (by first | exact HC3.out | exact box2_kept hf4 hbl3 HC3.out | exact box2_kept hf5 (Nat.lt_of_lt_of_le hbl3 hf4.size) (box2_kept hf4 hbl3 HC3.out)) ?_
      repeat' (first
        | (refine t_float (v := ?_) (a' := ?_) rfl rfl rfl ?_ ?_ ?_
           rotate_left 2
           · (intro w' hU; (try dsimp only at hU); go_simp; with_reducible rfl)
           · (simp only [Act.put, List.setIfInBounds_toArray, List.set_cons_zero, List.set_cons_succ]; rfl))
        | (refine t_bound (v := ?_) (a' := ?_) rfl rfl rfl ?_ ?_ ?_
           rotate_left 2
           · (go_simp; with_reducible rfl)
           · (simp only [Act.put, List.setIfInBounds_toArray, List.set_cons_zero, List.set_cons_succ]; rfl))
        | exact t_fin
        | (refine t_acts rfl rfl (fun K hK => ?_) ?_
           first | ((refine wp_str _ _ _ _ _ rfl Try.underlying25 Try.underlying5 Try.underlying9 v3 x rfl (by first | exact HR3.out.drew | exact HR3.out.drew.kept hf4 (fun _ _ _ _ f => f)) ?_); simp only [Act.put, List.setIfInBounds_toArray, List.set_cons_zero, List.set_cons_succ]) | (go_simp; try (go_wp2_with (first | (go_at_call 32; refine (ssum_any k v3 x _ HR3.out.drew HL3.out).mono ?_; rintro e w4 ⟨rfl, hf4⟩) | (go_at_call 33; refine (rsum_any k x _ HL3.out).mono ?_; rintro e w5 ⟨rfl, hf5⟩))))
           refine hK.out _ _ (by first | exact HC3.out | exact box2_kept hf4 hbl3 HC3.out | exact box2_kept hf5 (Nat.lt_of_lt_of_le hbl3 hf4.size) (box2_kept hf4 hbl3 HC3.out)) ?_
           clear hK K))
      all_goals (refine t_done ?_)
      all_goals
        have HF5 := Lib.hid ((HF3.out.drew.trans hf4).trans hf5)
        have HO5 := Lib.hid ((HO3.out.drew.kept hf4 (fun _ _ f => f)).kept hf5 (fun _ _ f => f))
        have HB5 := Lib.hid ((HB3.out.drew.kept hf4 (fun f => f)).kept hf5 (fun f => f))
        clear hf4 hf5 HF3 HO3 HB3 HR3 HC3
        go_wp2
        go_roundw
        case rel => exact ⟨j + 1, by omega, by go_num, by rw [HX.out]; exact HO5.out, HB5.out, HF5.out⟩
        case measure => simp [intOf]; omega
    · obtain rfl : j = m := by omega
      go_wp2_with fail
      refine (told1_any _).mono ?_
      rintro e w3 ⟨rfl, hf⟩
      go_wp2
      go_ret
      exact ⟨rfl, HF.out.trans hf⟩

namespace sipBlocks
open Go Go.ChangeShapes Go.WideShapes Go.ChangeAt Go.RowKit
set_option linter.unusedVariables false
set_option maxRecDepth 100000 in
theorem lifted (os : Os) (started : os.Started) (H : Type) (enc : TypeId × Value → H) :
    ReturnsInHanded {} Try.checked os 7 .any (Rows.sipBlocksSpec.pre6 enc Try.prog Try.f7 Rows.sipBlocksRow.domain false) (Rows.sipBlocksSpec.post enc Try.prog Try.f7 false true false false) := by
  refine returnsInHanded_of_change (C := Try.checked) owned started (by kernel_rfl) Try.func7
    (ChangeSpec.witness6 (enc := enc) (C := Try.checked) false ⟨#[], #[.agg #[.int .u64 0, .int .u64 0], .slice none 0 0, .int .i64 0], []⟩ 8 (by kernel_rfl) (by kernel_rfl) (by kernel_rfl) (by kernel_rfl)) ?_
  intro W base args ds gs before hval0 hW hcnd _
  have hval : ∀ (j : Nat) t v, Try.f7.params[j]? = some t → args[j]? = some v → Value.okWide Try.prog W .any base t v := hval0
  have hW' := hW
  obtain ⟨p, q, hA0, hV, rfl, hfz, hnd⟩ := hW
  have hA : DataW.TrodAll enc Try.prog W 0 (fun _ => true) true Try.f7.params.toList args.toList ds p := hA0
  rw [Try.params7] at hA hval
  obtain ⟨v0, vs0, d0, ds0, p0, q0, hargs, rfl, rfl, h0, r0⟩ := trodAll_cons hA
  obtain ⟨v1, vs1, d1, ds1, p1, q1, rfl, rfl, rfl, h1, r1⟩ := trodAll_cons r0
  obtain ⟨v2, vs2, d2, ds2, p2, q2, rfl, rfl, rfl, h2, r2⟩ := trodAll_cons r1
  obtain ⟨rfl, rfl, rfl⟩ := trodAll_nil r2
  obtain rfl : args = #[v0, v1, v2] := by cases args; simp_all
  obtain ⟨rfl, rfl⟩ := trodVars_none hV
  have k0 := h0
  have lt0 : ∀ x ∈ p0, x.block < W.heap.size := by obtain ⟨m, hm⟩ := k0; exact DataW.trod_lt m _ _ _ hm
  have k1 := h1
  have lt1 : ∀ x ∈ p1, x.block < W.heap.size := by obtain ⟨m, hm⟩ := k1; exact DataW.trod_lt m _ _ _ hm
  have k2 := h2
  have lt2 : ∀ x ∈ p2, x.block < W.heap.size := by obtain ⟨m, hm⟩ := k2; exact DataW.trod_lt m _ _ _ hm
  obtain ⟨x0, rfl⟩ := open_arr2 Try.underlying23 Try.underlying22 (by kernel_rfl) (by kernel_rfl) (hval 0 23 v0 rfl rfl) h0
  obtain ⟨x1, hr1⟩ := open_bytes Try.underlying25 Try.underlying5 (by kernel_rfl) (hval 1 25 v1 rfl rfl) h1
  obtain ⟨x2, rfl, bl2, bh2⟩ := open_num Try.underlying3 (hval 2 3 v2 rfl rfl) h2
  clear hA0 hval0
  refine (walk_SipBlocks W x0 v1 x1 hr1 x2 bl2 bh2).mono fun e W' ⟨he, fr⟩ => ?_
  subst he
  have bel := fr.below
  exact ⟨_, rfl, _, _, _, [], _, [], hW', trodAll_mk1 (shut_bool Try.underlying4 _), (trodAll_cons_mk (Below.trod laid (by kernel_rfl) (of_decide_eq_true (by kernel_rfl)) k0 bel lt0) (trodAll_cons_mk (Below.trod laid (by kernel_rfl) (of_decide_eq_true (by kernel_rfl)) k1 bel lt1) (trodAll_cons_mk (Below.trod laid (by kernel_rfl) (of_decide_eq_true (by kernel_rfl)) k2 bel lt2) trodAll_mk0))), rfl, bel.frame _, fun h => by cases h⟩

theorem inPlace : Try.prog.inPlace 7 = [] := inPlace_none _ _ (by kernel_rfl)
theorem closed : joinedFacts Try.prog 7 Try.f7 Rows.sipBlocksSpec Rows.sipBlocksRow = true := by
  unfold joinedFacts
  repeat' (with_reducible refine and_mk ?_ ?_)
  all_goals first
    | with_reducible exact enters
    | with_reducible exact laid
    | with_reducible exact rowed
    | with_reducible exact noStops
    | with_reducible exact noKnobs
    | with_reducible exact heard
    | (rw [lifts]; as_aux_lemma => kernel_rfl)
    | (rw [makes]; as_aux_lemma => kernel_rfl)
    | (rw [plains]; as_aux_lemma => kernel_rfl)
    | (rw [inPlace]; as_aux_lemma => kernel_rfl)
    | as_aux_lemma => kernel_rfl
theorem named : Try.prog.funcNamed Rows.sipBlocksRow.func = some 7 := by kernel_rfl
theorem isOne : (Try.f7).isInstance Try.prog Rows.sipBlocksRow.origin Rows.sipBlocksRow.targs := of_decide_eq_true (by kernel_rfl)
theorem wraps : (Try.f7).isWrapper Try.prog Rows.sipBlocksRow.wrapper Rows.sipBlocksRow.mainSum := by unfold Func.isWrapper; first | (rw [if_pos (by decide +kernel)]; kernel_rfl) | (rw [if_neg (by decide +kernel)]; exact ⟨rfl, rfl⟩)
theorem over : Rows.sipBlocksRow.holds Try.pinned (OpenSpec.ofChange Rows.sipBlocksSpec) :=
  OpenClaim.holds_of_wide 7 Try.f7 rfl rfl rfl rfl rfl rfl rfl ⟨rfl, rfl, rfl, rfl, rfl⟩ rfl rfl rfl rfl rfl named Try.func7 closed
    isOne wraps
    (fun os started H enc _ => lifted os started H enc)

/-- THE STATEMENT. -/
theorem proved : Rows.SipBlocksSaid := over
#print axioms proved
end sipBlocks
end Go.Proofs.Ytandenkoejbloaa
